/- DERIVED. What a call that makes memory leaves as it was, in the form in which a walk goes on with it: blocks known whole, read cell by cell, behind any number of draws and new blocks; no program. -/
import Derived.Below
import Derived.WalkKit
import Derived.RowKit
import Derived.Lib.QuietBelow
import Derived.Laws.NewBlocks
namespace Go.Proofs.YtcjfafhbohkhlaaGreat.M
open Go Go.RowKit Go.Sort
set_option linter.unusedVariables false
theorem bcell {W w1 : World} (hb : Below W.heap.size W w1) : (∀ b o, b < W.heap.size → w1.cell? ⟨b, o, none⟩ = W.cell? ⟨b, o, none⟩) ∧ (∀ b o, b < W.heap.size → w1.frozen? ⟨b, o, none⟩ = W.frozen? ⟨b, o, none⟩) :=
  ⟨fun b o h => hb.cell (p := ⟨b, o, none⟩) h, fun b o h => hb.frozen (p := ⟨b, o, none⟩) h⟩
/-- Block b of w holds just these cells, and may be written. -/
def Blk (w : World) (b : Nat) (cs : Array Value) (T : Nat) : Prop := w.heap[b]? = some (.cells cs T (0, 0))
theorem Blk.lt {w : World} {b T : Nat} {cs : Array Value} (h : Blk w b cs T) : b < w.heap.size := (Array.getElem?_eq_some_iff.1 h).1
theorem Blk.new (w : World) (cs : Array Value) (T : Nat) : Blk (w.alloc (.cells cs T)) w.heap.size cs T := by
  show (w.heap.push _)[w.heap.size]? = _
  rw [Array.getElem?_push, if_pos rfl]
theorem Blk.alloc {w : World} {b T : Nat} {cs : Array Value} (h : Blk w b cs T) (o : Obj) : Blk (w.alloc o) b cs T := (Below.heap_alloc w o b h.lt).trans h
theorem Blk.below {w w1 : World} {b T : Nat} {cs : Array Value} (h : Blk w b cs T) (hb : Below w.heap.size w w1) : Blk w1 b cs T := (hb.block b h.lt).trans h
theorem Blk.drew {w : World} {b T : Nat} {cs : Array Value} (h : Blk w b cs T) : Blk w.drew b cs T := h
theorem Blk.drewN {w : World} {b T : Nat} {cs : Array Value} (h : Blk w b cs T) {n : Nat} : Blk (w.drewN n) b cs T := h
theorem below_drewN {B : Nat} {a w : World} (h : Below B a w) (n : Nat) : Below B a (w.drewN n) := ⟨h.os, h.tape, h.output, h.size, h.block⟩
theorem Blk.far {w : World} {b T : Nat} {cs : Array Value} (h : Blk w b cs T) {p : Addr} (hp : b ≠ p.block) (u : Value) : Blk (w.setCell p u) b cs T := (Below.heap_setCell w p u b hp).trans h
theorem Blk.cell {w : World} {b T : Nat} {cs : Array Value} (h : Blk w b cs T) (i : Nat) : w.cell? ⟨b, i, none⟩ = cs[i]? := by
  unfold Blk at h; simp [World.cell?, h]
theorem Blk.frozen {w : World} {b T : Nat} {cs : Array Value} (h : Blk w b cs T) (i : Nat) : w.frozen? ⟨b, i, none⟩ = false := by
  unfold Blk at h; simp [World.frozen?, h]
theorem Blk.set {w : World} {b T : Nat} {cs : Array Value} (h : Blk w b cs T) (i : Nat) (u : Value) : Blk (w.setCell ⟨b, i, none⟩ u) b (cs.setIfInBounds i u) T := by
  unfold Blk at *
  simp only [World.setCell, Array.getElem?_modify, if_true, h, Option.map_some]; rfl
/-- .. in every world of the class that a region of calls which make memory goes through. -/
theorem Blk.grow {w : World} {b T : Nat} {cs : Array Value} (h : Blk w b cs T) (d : Nat) (os : Array Obj) : Blk (grow (redrawn w d) os) b cs T := h.below (below_regrown w d os)
theorem Blk.gcell {w : World} {b T : Nat} {cs : Array Value} (h : Blk w b cs T) : ∀ (d : Nat) (os : Array Obj) (i : Nat), (Sort.grow (redrawn w d) os).cell? ⟨b, i, none⟩ = cs[i]? := fun d os i => (h.grow d os).cell i
/-- A contract that makes memory, or draws alone, met inside such a region. -/
theorem in_grow {P : Program} {f : FuncId} {args : Array Value} {w : World} {v : Value} (h : ∀ W, Calls P f args W fun e w' => e = .returned v ∧ Below W.heap.size W w') :
    ∀ d os, Calls P f args (Sort.grow (redrawn w d) os) fun e w'' => e = .returned v ∧ ∃ p : Regrown, w'' = Sort.grow (redrawn w p.d) p.os := fun d os => Calls.regrown_of (h _)
theorem Blk.alloc_eq {w X : World} {b T : Nat} {cs : Array Value} {o : Obj} (h : Blk w b cs T) (e : w.alloc o = X) : Blk X b cs T := e ▸ h.alloc o
theorem Blk.new_eq {w X : World} {T : Nat} {cs : Array Value} (e : w.alloc (.cells cs T) = X) : Blk X w.heap.size cs T := e ▸ Blk.new w cs T
theorem below_alloc_eq {B : Nat} {a w X : World} {o : Obj} (h : Below B a w) (hB : B ≤ w.heap.size) (e : w.alloc o = X) : Below B a X := e ▸ h.alloc hB o
theorem Blk.grow_eq {w X : World} {b T : Nat} {cs : Array Value} {d : Nat} {os : Array Obj} (h : Blk w b cs T) (e : Sort.grow (redrawn w d) os = X) : Blk X b cs T := e ▸ h.grow d os
theorem below_grow_eq {B : Nat} {a w X : World} {d : Nat} {os : Array Obj} (h : Below B a w) (hB : B ≤ w.heap.size) (e : Sort.grow (redrawn w d) os = X) : Below B a X := e ▸ h.trans ((below_regrown w d os).mono hB)
theorem size_setCell (w : World) (a : Addr) (v : Value) : (w.setCell a v).heap.size = w.heap.size := by simp [World.setCell]
theorem Blk.new_set {w1 w2 : World} {a : Addr} {v : Value} {cs : Array Value} {T : Nat} (hb : Below ((w1.setCell a v).alloc (.cells cs T)).heap.size ((w1.setCell a v).alloc (.cells cs T)) w2) : Blk w2 w1.heap.size cs T := by
  have h := (Blk.new (w1.setCell a v) cs T).below hb
  rw [size_setCell] at h; exact h
theorem new2b (w : World) (c1 c2 : Array Value) (T1 T2 : Nat) : Blk ((w.alloc (.cells c1 T1)).alloc (.cells c2 T2)) (w.heap.size + 1) c2 T2 := by
  have h := Blk.new (w.alloc (.cells c1 T1)) c2 T2; rw [World.size_alloc] at h; exact h
section
variable {w X : World} {c1 c2 c3 : Array Value} {T1 T2 T3 : Nat}
theorem new3a (e : ((w.alloc (.cells c1 T1)).alloc (.cells c2 T2)).alloc (.cells c3 T3) = X) : Blk X w.heap.size c1 T1 := e ▸ ((Blk.new w c1 T1).alloc _).alloc _
theorem new3b (e : ((w.alloc (.cells c1 T1)).alloc (.cells c2 T2)).alloc (.cells c3 T3) = X) : Blk X (w.heap.size + 1) c2 T2 := by
  have h := (Blk.new (w.alloc (.cells c1 T1)) c2 T2).alloc (.cells c3 T3); rw [e, World.size_alloc] at h; exact h
theorem new3c (e : ((w.alloc (.cells c1 T1)).alloc (.cells c2 T2)).alloc (.cells c3 T3) = X) : Blk X (w.heap.size + 1 + 1) c3 T3 := by
  have h := Blk.new ((w.alloc (.cells c1 T1)).alloc (.cells c2 T2)) c3 T3; rw [e, World.size_alloc, World.size_alloc] at h; exact h
theorem new3d (e : ((w.alloc (.cells c1 T1)).alloc (.cells c2 T2)).alloc (.cells c3 T3) = X) : Below w.heap.size w X :=
  e ▸ (((Below.refl _ _).alloc (Nat.le_refl _) _).alloc (by simp) _).alloc (by simp; omega) _
end
end Go.Proofs.YtcjfafhbohkhlaaGreat.M
