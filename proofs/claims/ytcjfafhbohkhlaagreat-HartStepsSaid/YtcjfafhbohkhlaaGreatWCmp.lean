/- DERIVED. Short names for the steps that printed walks repeat; no program. -/
import Derived.Test.YtcjfafhbohkhlaaGreatWWords
import Derived.Test.YtcjfafhbohkhlaaGreatWLast
import Derived.Test.YtcjfafhbohkhlaaGreatWMore
import Derived.Test.YtcjfafhbohkhlaaGreatWTab
import Derived.Test.YtcjfafhbohkhlaaGreatWShare
import Derived.Tactics
import Derived.KernelRfl
namespace Go.Proofs.YtcjfafhbohkhlaaGreatW.PrintWords
open Go.RowKit Go.Proofs.YtcjfafhbohkhlaaGreatW.PrintLast
set_option linter.unusedVariables false
set_option autoImplicit false
theorem am {p : Prop} (h : p) : Aside0 p := ⟨h⟩
theorem bam {α β : Type} {o : Option α} {f : α → Option β} {r : β} (h : o.bind f = some r) : ∃ x, Aside0 (o = some x) ∧ f x = some r := by
  obtain ⟨x, h1, h2⟩ := Option.bind_eq_some_iff.mp h
  exact ⟨x, ⟨h1⟩, h2⟩
theorem ff : ¬ (false = true) := by decide
theorem fr {p : Prop} (h : p := by first | rfl | (simp; done) | (simp [*]; done)) : p := h
theorem fe {p : Prop} (h : p := by first | rfl | (simp [errW_none, errW_some] <;> rfl) | (simp [*, errW_none, errW_some] <;> rfl)) : p := h
theorem om {p : Prop} (h : p := by first | omega | exact Nat.le_refl _) : p := h
theorem dd {w w' : World} (h : Drawn0 w w' := by repeat (first | exact Drawn0.refl _ | apply Drawn0.step)) : Drawn0 w w' := h
theorem fd {p : Prop} {w w' : World} (h : p := by first | rfl | (simp; done) | (simp [*]; done)) (d : Drawn0 w w' := by repeat (first | exact Drawn0.refl _ | apply Drawn0.step)) : p ∧ Drawn0 w w' := ⟨h, d⟩
theorem leo {p : Prop} (h : p := by
  repeat' first
  | (with_reducible apply ih0) | (with_reducible apply ih1) | (with_reducible apply ih2) | (with_reducible apply ih3)
  | (with_reducible exact LeO.refl _)
  | (with_reducible exact LeO.none _)
  | (with_reducible refine LeO.ite ?_ ?_)
  | (with_reducible refine LeO.bind ?_ (fun _ => ?_))
  | apply ih0 | apply ih1 | apply ih2 | apply ih3
  | exact LeO.none _
  | refine LeO.ite ?_ ?_
  | refine LeO.bind ?_ (fun _ => ?_)) : p := h
theorem bqt {α : Type} [BEq α] [LawfulBEq α] {a b : α} (h : a = b) : (a == b) = true ∧ (a != b) = false := ⟨beq_iff_eq.mpr h, bne_eq_false_iff_eq.mpr h⟩
theorem bqf {α : Type} [BEq α] [LawfulBEq α] {a b : α} (h : ¬ a = b) : (a == b) = false ∧ (a != b) = true := ⟨beq_eq_false_iff_ne.mpr h, bne_iff_ne.mpr h⟩
theorem bb {w W V : World} (h : Aside0 (Below w.heap.size w W)) (t : Below w.heap.size w W → Below w.heap.size w V := by intro h; repeat (first | (with_reducible first | exact h | apply below_alloc | apply pw_below_drewN | apply below_drew1) | exact h)) : Below w.heap.size w V := t h.out
theorem bn {w W V U : World} (h : Aside0 (Below w.heap.size w W)) (b : Below V.heap.size V U) (t : Below w.heap.size w W → Below w.heap.size w V := by intro h; repeat (first | (with_reducible first | exact h | apply below_alloc | apply pw_below_drewN | apply below_drew1) | exact h)) : Aside0 (Below w.heap.size w U) := ⟨below_step (t h.out) b⟩
theorem bz {w W V : World} {g : Nat} (h : Aside0 (Below w.heap.size w W)) (e : g = V.heap.size) (t : Below w.heap.size w W → Below w.heap.size w V := by intro h; repeat (first | (with_reducible first | exact h | apply below_alloc | apply pw_below_drewN | apply below_drew1) | exact h)) : Aside0 (w.heap.size ≤ g) := ⟨e ▸ below_size (t h.out)⟩
theorem bs {w W V : World} {g0 : Nat} (h : Aside0 (Below w.heap.size w W)) (k0 : Aside0 (w.heap.size ≤ g0)) (t : Below w.heap.size w W → w.heap.size ≤ g0 → Below w.heap.size w V := by intro h ge0; repeat (first | (with_reducible first | exact h | apply below_alloc | apply pw_below_drewN | apply below_drew1 | refine below_set ?_ ge0) | exact h)) : Below w.heap.size w V := t h.out k0.out
theorem bns {w W V U : World} {g0 : Nat} (h : Aside0 (Below w.heap.size w W)) (k0 : Aside0 (w.heap.size ≤ g0)) (b : Below V.heap.size V U) (t : Below w.heap.size w W → w.heap.size ≤ g0 → Below w.heap.size w V := by intro h ge0; repeat (first | (with_reducible first | exact h | apply below_alloc | apply pw_below_drewN | apply below_drew1 | refine below_set ?_ ge0) | exact h)) : Aside0 (Below w.heap.size w U) := ⟨below_step (t h.out k0.out) b⟩
theorem bzs {w W V : World} {g : Nat} {g0 : Nat} (h : Aside0 (Below w.heap.size w W)) (k0 : Aside0 (w.heap.size ≤ g0)) (e : g = V.heap.size) (t : Below w.heap.size w W → w.heap.size ≤ g0 → Below w.heap.size w V := by intro h ge0; repeat (first | (with_reducible first | exact h | apply below_alloc | apply pw_below_drewN | apply below_drew1 | refine below_set ?_ ge0) | exact h)) : Aside0 (w.heap.size ≤ g) := ⟨e ▸ below_size (t h.out k0.out)⟩
theorem bs2 {w W V : World} {g0 : Nat} {g1 : Nat} (h : Aside0 (Below w.heap.size w W)) (k0 : Aside0 (w.heap.size ≤ g0)) (k1 : Aside0 (w.heap.size ≤ g1)) (t : Below w.heap.size w W → w.heap.size ≤ g0 → w.heap.size ≤ g1 → Below w.heap.size w V := by intro h ge0 ge1; repeat (first | (with_reducible first | exact h | apply below_alloc | apply pw_below_drewN | apply below_drew1 | refine below_set ?_ ge0 | refine below_set ?_ ge1) | exact h)) : Below w.heap.size w V := t h.out k0.out k1.out
theorem bns2 {w W V U : World} {g0 : Nat} {g1 : Nat} (h : Aside0 (Below w.heap.size w W)) (k0 : Aside0 (w.heap.size ≤ g0)) (k1 : Aside0 (w.heap.size ≤ g1)) (b : Below V.heap.size V U) (t : Below w.heap.size w W → w.heap.size ≤ g0 → w.heap.size ≤ g1 → Below w.heap.size w V := by intro h ge0 ge1; repeat (first | (with_reducible first | exact h | apply below_alloc | apply pw_below_drewN | apply below_drew1 | refine below_set ?_ ge0 | refine below_set ?_ ge1) | exact h)) : Aside0 (Below w.heap.size w U) := ⟨below_step (t h.out k0.out k1.out) b⟩
theorem bzs2 {w W V : World} {g : Nat} {g0 : Nat} {g1 : Nat} (h : Aside0 (Below w.heap.size w W)) (k0 : Aside0 (w.heap.size ≤ g0)) (k1 : Aside0 (w.heap.size ≤ g1)) (e : g = V.heap.size) (t : Below w.heap.size w W → w.heap.size ≤ g0 → w.heap.size ≤ g1 → Below w.heap.size w V := by intro h ge0 ge1; repeat (first | (with_reducible first | exact h | apply below_alloc | apply pw_below_drewN | apply below_drew1 | refine below_set ?_ ge0 | refine below_set ?_ ge1) | exact h)) : Aside0 (w.heap.size ≤ g) := ⟨e ▸ below_size (t h.out k0.out k1.out)⟩
theorem bs3 {w W V : World} {g0 : Nat} {g1 : Nat} {g2 : Nat} (h : Aside0 (Below w.heap.size w W)) (k0 : Aside0 (w.heap.size ≤ g0)) (k1 : Aside0 (w.heap.size ≤ g1)) (k2 : Aside0 (w.heap.size ≤ g2)) (t : Below w.heap.size w W → w.heap.size ≤ g0 → w.heap.size ≤ g1 → w.heap.size ≤ g2 → Below w.heap.size w V := by intro h ge0 ge1 ge2; repeat (first | (with_reducible first | exact h | apply below_alloc | apply pw_below_drewN | apply below_drew1 | refine below_set ?_ ge0 | refine below_set ?_ ge1 | refine below_set ?_ ge2) | exact h)) : Below w.heap.size w V := t h.out k0.out k1.out k2.out
theorem bns3 {w W V U : World} {g0 : Nat} {g1 : Nat} {g2 : Nat} (h : Aside0 (Below w.heap.size w W)) (k0 : Aside0 (w.heap.size ≤ g0)) (k1 : Aside0 (w.heap.size ≤ g1)) (k2 : Aside0 (w.heap.size ≤ g2)) (b : Below V.heap.size V U) (t : Below w.heap.size w W → w.heap.size ≤ g0 → w.heap.size ≤ g1 → w.heap.size ≤ g2 → Below w.heap.size w V := by intro h ge0 ge1 ge2; repeat (first | (with_reducible first | exact h | apply below_alloc | apply pw_below_drewN | apply below_drew1 | refine below_set ?_ ge0 | refine below_set ?_ ge1 | refine below_set ?_ ge2) | exact h)) : Aside0 (Below w.heap.size w U) := ⟨below_step (t h.out k0.out k1.out k2.out) b⟩
theorem bu {w W : World} {g : Nat} {o : Obj} (h : Aside0 (w.heap[g]? = some o)) (t : w.heap[g]? = some o → W.heap[g]? = some o := by intro h; (with_reducible repeat (first | refine blk_drewN ?_ _ | refine blk_drew ?_ | refine blk_alloc ?_ _)); exact h) : W.heap[g]? = some o := t h.out
theorem bk {w W V : World} {g : Nat} {o : Obj} (h : Aside0 (w.heap[g]? = some o)) (b : Below W.heap.size W V) (t : w.heap[g]? = some o → W.heap[g]? = some o := by intro h; (with_reducible repeat (first | refine blk_drewN ?_ _ | refine blk_drew ?_ | refine blk_alloc ?_ _)); exact h) : Aside0 (V.heap[g]? = some o) := ⟨blk_below (t h.out) b⟩
theorem nl {w W : World} {g g1 : Nat} {o : Obj} (h : Aside0 (w.heap[g]? = some o)) (e : g1 = W.heap.size) (t : w.heap[g]? = some o → W.heap[g]? = some o := by intro h; (with_reducible repeat (first | refine blk_drewN ?_ _ | refine blk_drew ?_ | refine blk_alloc ?_ _)); exact h) : Aside0 (g ≠ g1) := ⟨e ▸ Nat.ne_of_lt (blk_lt (t h.out))⟩
theorem ng {w W : World} {g g1 : Nat} {o : Obj} (h : Aside0 (w.heap[g]? = some o)) (e : g1 = W.heap.size) (t : w.heap[g]? = some o → W.heap[g]? = some o := by intro h; (with_reducible repeat (first | refine blk_drewN ?_ _ | refine blk_drew ?_ | refine blk_alloc ?_ _)); exact h) : Aside0 (g1 ≠ g) := ⟨e ▸ Nat.ne_of_gt (blk_lt (t h.out))⟩
theorem cf3 {w : World} {g : Nat} {a0 a1 a2 : Value} {T : TypeId} (h : Aside0 (w.heap[g]? = some (.cells #[a0, a1, a2] T (0, 0)))) : w.cell? ⟨g, 0, none⟩ = some a0 ∧ w.cell? ⟨g, 1, none⟩ = some a1 ∧ w.cell? ⟨g, 2, none⟩ = some a2 ∧ w.frozen? ⟨g, 0, none⟩ = false ∧ w.frozen? ⟨g, 1, none⟩ = false ∧ w.frozen? ⟨g, 2, none⟩ = false := ⟨(blk_cell h.out 0).trans rfl, (blk_cell h.out 1).trans rfl, (blk_cell h.out 2).trans rfl, blk_frozen h.out 0, blk_frozen h.out 1, blk_frozen h.out 2⟩
theorem cf4 {w : World} {g : Nat} {a0 a1 a2 a3 : Value} {T : TypeId} (h : Aside0 (w.heap[g]? = some (.cells #[a0, a1, a2, a3] T (0, 0)))) : w.cell? ⟨g, 0, none⟩ = some a0 ∧ w.cell? ⟨g, 1, none⟩ = some a1 ∧ w.cell? ⟨g, 2, none⟩ = some a2 ∧ w.cell? ⟨g, 3, none⟩ = some a3 ∧ w.frozen? ⟨g, 0, none⟩ = false ∧ w.frozen? ⟨g, 1, none⟩ = false ∧ w.frozen? ⟨g, 2, none⟩ = false ∧ w.frozen? ⟨g, 3, none⟩ = false := ⟨(blk_cell h.out 0).trans rfl, (blk_cell h.out 1).trans rfl, (blk_cell h.out 2).trans rfl, (blk_cell h.out 3).trans rfl, blk_frozen h.out 0, blk_frozen h.out 1, blk_frozen h.out 2, blk_frozen h.out 3⟩
theorem cf5 {w : World} {g : Nat} {a0 a1 a2 a3 a4 : Value} {T : TypeId} (h : Aside0 (w.heap[g]? = some (.cells #[a0, a1, a2, a3, a4] T (0, 0)))) : w.cell? ⟨g, 0, none⟩ = some a0 ∧ w.cell? ⟨g, 1, none⟩ = some a1 ∧ w.cell? ⟨g, 2, none⟩ = some a2 ∧ w.cell? ⟨g, 3, none⟩ = some a3 ∧ w.cell? ⟨g, 4, none⟩ = some a4 ∧ w.frozen? ⟨g, 0, none⟩ = false ∧ w.frozen? ⟨g, 1, none⟩ = false ∧ w.frozen? ⟨g, 2, none⟩ = false ∧ w.frozen? ⟨g, 3, none⟩ = false ∧ w.frozen? ⟨g, 4, none⟩ = false := ⟨(blk_cell h.out 0).trans rfl, (blk_cell h.out 1).trans rfl, (blk_cell h.out 2).trans rfl, (blk_cell h.out 3).trans rfl, (blk_cell h.out 4).trans rfl, blk_frozen h.out 0, blk_frozen h.out 1, blk_frozen h.out 2, blk_frozen h.out 3, blk_frozen h.out 4⟩
theorem cf7 {w : World} {g : Nat} {a0 a1 a2 a3 a4 a5 a6 : Value} {T : TypeId} (h : Aside0 (w.heap[g]? = some (.cells #[a0, a1, a2, a3, a4, a5, a6] T (0, 0)))) : w.cell? ⟨g, 0, none⟩ = some a0 ∧ w.cell? ⟨g, 1, none⟩ = some a1 ∧ w.cell? ⟨g, 2, none⟩ = some a2 ∧ w.cell? ⟨g, 3, none⟩ = some a3 ∧ w.cell? ⟨g, 4, none⟩ = some a4 ∧ w.cell? ⟨g, 5, none⟩ = some a5 ∧ w.cell? ⟨g, 6, none⟩ = some a6 ∧ w.frozen? ⟨g, 0, none⟩ = false ∧ w.frozen? ⟨g, 1, none⟩ = false ∧ w.frozen? ⟨g, 2, none⟩ = false ∧ w.frozen? ⟨g, 3, none⟩ = false ∧ w.frozen? ⟨g, 4, none⟩ = false ∧ w.frozen? ⟨g, 5, none⟩ = false ∧ w.frozen? ⟨g, 6, none⟩ = false := ⟨(blk_cell h.out 0).trans rfl, (blk_cell h.out 1).trans rfl, (blk_cell h.out 2).trans rfl, (blk_cell h.out 3).trans rfl, (blk_cell h.out 4).trans rfl, (blk_cell h.out 5).trans rfl, (blk_cell h.out 6).trans rfl, blk_frozen h.out 0, blk_frozen h.out 1, blk_frozen h.out 2, blk_frozen h.out 3, blk_frozen h.out 4, blk_frozen h.out 5, blk_frozen h.out 6⟩
section
variable {P : Program} {ops : Array Oper} {rest : List Oper} {o : Oper} {a : Act} {Q : Exit → Act → World → Prop} {W : World}
theorem be (N : Tmp) (t : TypeId) (cs : Array Value)
    (h : ∀ g, g = W.heap.size → ∀ w1, w1.heap[g]? = some (.cells cs t (0, 0)) → Below W.heap.size W w1 → wpList P ops Q rest (a.put o.dst (.pointer (some ⟨g, 0, none⟩))) w1)
    (hd : o.dst = some N := by rfl) (hg : o.guard = none := by rfl)
    (hr : (execOp a.eval o).run P W = .ok (.value (.pointer (some ⟨W.heap.size, 0, none⟩))) (W.alloc (.cells cs t (0, 0))) := by first | (go_simp; done) | (go_simp; rfl)) : wpList P ops Q (o :: rest) a W := box_event hg hd hr h
theorem gl (N : Option Tmp) (hd : o.dst = N) (hg : o.guard = none) {f : FuncId} {fn : Func} {as : Array Operand} {ts : Array TypeId} (hf : P.funcs[f]? = some fn) (hb : fn.body.isSome = true) (args : Array Value)
    (hop : o.op = .call { callee := .value (.func f), args := as, argTypes := ts })
    (h : Calls P f args W fun e w' => ∃ v, e = .returned v ∧ wpList P ops Q rest (a.put N v) w')
    (hname : (fn.name == "runtime.NumGoroutine") = false := by kernel_rfl)
    (hargs : as.map a.eval = args := by (try simp only [List.map_toArray, List.map_cons, List.map_nil]); first | done | rfl | (simp only [List.length_drop, List.length_take]; rfl)) : wpList P ops Q (o :: rest) a W :=
  goesL_ N hd hg hf hname hb args hop hargs h
end
end Go.Proofs.YtcjfafhbohkhlaaGreatW.PrintWords
