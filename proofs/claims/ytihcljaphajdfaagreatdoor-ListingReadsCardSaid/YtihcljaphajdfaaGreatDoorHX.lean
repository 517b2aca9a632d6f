/- DERIVED. DERIVED. The walk of Read. -/
import Derived.Test.YtihcljaphajdfaaGreatDoorProg
import Derived.Test.YtihcljaphajdfaaGreatDoorMBits
import Derived.Test.YtihcljaphajdfaaGreatDoorMWalk
import Derived.Test.YtihcljaphajdfaaGreatDoorMTab
import Derived.Test.YtihcljaphajdfaaGreatDoorMInst
import Derived.Test.YtihcljaphajdfaaGreatDoorMDec
import Derived.Test.YtihcljaphajdfaaGreatDoorMDec2
import Derived.Test.YtihcljaphajdfaaGreatDoorMQTail
import Derived.Test.YtihcljaphajdfaaGreatDoorMArg
import Derived.Test.YtihcljaphajdfaaGreatDoorMRow
import Derived.Test.YtihcljaphajdfaaGreatDoorMOpen
import Derived.Test.YtihcljaphajdfaaGreatDoorMPart
import Derived.Test.YtihcljaphajdfaaGreatDoorMStore
import Derived.Test.YtihcljaphajdfaaGreatDoorMReg
import Derived.Test.YtihcljaphajdfaaGreatDoorMQTwo
import Derived.Test.YtihcljaphajdfaaGreatDoorMQTail
import Derived.Test.YtihcljaphajdfaaGreatDoorMQOne
import Derived.Test.YtihcljaphajdfaaGreatDoorMQPick
import Derived.Test.YtihcljaphajdfaaGreatDoorMReg
import Derived.Test.YtihcljaphajdfaaGreatDoorMStore
import Derived.Test.YtihcljaphajdfaaGreatDoorHV
import Derived.Test.YtihcljaphajdfaaGreatDoorPAllx2
import Derived.Test.YtihcljaphajdfaaGreatDoorPAllx4
import Derived.Test.YtihcljaphajdfaaGreatDoorPAllx8
import Derived.Test.YtihcljaphajdfaaGreatDoorPAllx9
import Derived.Test.YtihcljaphajdfaaGreatDoorPAllx10
import Derived.Below
import Derived.Deep.Draws
import Derived.Deep.AppendLies
import Derived.Maps.AppendAt
import Derived.OwnWalk
import Derived.Laws.BytesArg
import Derived.Laws.MakeOwn
import Derived.Laws.OwnMore
import Derived.Deep.OwnRows
import Derived.Tactics
import Derived.Lib.ConvBytes
import Derived.Laws.Slices
import Derived.WalkKit
import Derived.KernelRfl
import Derived.RowKit3
import Derived.Deep.LoopGhost
import Derived.Deep.QuietTactic
import Derived.BigQuiet
import Derived.WideLaws
import Derived.Deep.DeepCutAuto
import Derived.Deep.CutBlock
import Derived.Deep.RegionHeld3
import Derived.Laws.Rows
import Derived.Lib.AppendStr
import Derived.ArgAppend
import Derived.Laws.IdiomCopy
import Derived.OrdersHeld
import Derived.Laws.BitsLemmas
import Derived.Laws.Bits64
import Derived.RowKit
import Derived.Outline
import Derived.Handy
import Derived.Lib.Hide
import Derived.Deep.Light
import Derived.Laws.CopyOwn
import Derived.Lib.ItoaLen
import Derived.Deep.CutRange
import Derived.StillTail
import Derived.Shelf.RegionOpen
import Derived.Lib.QuietBelow
import Derived.Lib.AppendIntMem
import Derived.Laws.AppendOwnNone
import Derived.Shelf.Strings.Prefix
import Derived.Shelf.Strings.Split
import Derived.Shelf.Strings.Cut
import Derived.Shelf.Strings.Builder1
import Derived.Shelf.Strconv.AtoiAll
import Derived.Shelf.Strconv.Itoa3
import Derived.Ground.NamesProg
import Derived.Lib.AtoiTie
import Derived.Lib.AtoiErrMem
import Derived.Shelf.Vars
import Derived.RangeFuncNested
import Derived.RangeFuncBound
import Derived.RangeFuncCalls
import Derived.RangeFuncLeaves
import Derived.Shelf.Abstract
import Derived.OwnWalkIn
import Derived.TacticsInMore
import Derived.LoopNIn
import Derived.LoopIn
import Derived.WalkSmall
import Derived.Sort.CutIn
namespace Go.Proofs.YtihcljaphajdfaaGreatDoor.Hand
open Go Go.RowKit Go.Proofs.YtihcljaphajdfaaGreatDoor.M Go.Proofs.YtihcljaphajdfaaGreatDoor.PAll Go.Proofs.YtihcljaphajdfaaGreatDoorW.PrintWords
set_option linter.unusedVariables false
set_option linter.unusedSimpArgs false
attribute [local go_sem] Oper.semAt_some
/-- What Read makes of lines: the instructions, or the first wrong line. -/
def readL : List (List UInt8 × Bool) → Nat → List Ins → List Ins × Nat × Int
  | [], _, acc => (acc, 0, 0)
  | (l, e) :: r, n, acc => match parseR ⟨l.toArray⟩ with
    | some i => if e = true then readL r (n + 1) (acc ++ [i]) else ([], n + 1, 30)
    | none => ([], n + 1, 30)
def readR (s : List UInt8) : List Ins × Nat × Int := readL (linesOf s) 0 []
theorem readL_yes (l : List UInt8) (r : List (List UInt8 × Bool)) (n : Nat) (acc : List Ins) (i : Ins) (h : parseR ⟨l.toArray⟩ = some i) : readL ((l, true) :: r) n acc = readL r (n + 1) (acc ++ [i]) := by
  conv => lhs; unfold readL
  rw [h]; rfl
theorem readL_no (l : List UInt8) (e : Bool) (r : List (List UInt8 × Bool)) (n : Nat) (acc : List Ins) (h : parseR ⟨l.toArray⟩ = none ∨ e = false) : readL ((l, e) :: r) n acc = ([], n + 1, 30) := by
  unfold readL
  cases hp : parseR ⟨l.toArray⟩ with
  | none => rfl
  | some i =>
    rcases h with h | h
    · rw [hp] at h; cases h
    · subst h; rfl
theorem insEnd_two (r : Option Ins) : ∃ (i : Ins) (n : Int), insEnd r = (.agg i.cells, n) ∧ ((r = some i ∧ n = 0) ∨ (r = none ∧ n = 30)) := by
  cases r with
  | none => exact ⟨_, _, rfl, .inr ⟨rfl, rfl⟩⟩
  | some i => exact ⟨i, 0, rfl, .inl ⟨rfl, rfl⟩⟩
theorem linesOf_small (s : List UInt8) : (linesOf s).length ≤ s.length ∧ ∀ x ∈ linesOf s, x.1.length ≤ s.length := by
  induction hn : s.length using Nat.strongRecOn generalizing s with
  | ind n ih =>
    subst hn
    by_cases h : s = []
    · subst h
      rw [linesOf_nil]
      exact ⟨Nat.le_refl _, fun x hx => by cases hx⟩
    · obtain ⟨h1, h2⟩ := cut_less h
      obtain ⟨i1, i2⟩ := ih _ h1 _ rfl
      rw [linesOf_cons h]
      refine ⟨by rw [List.length_cons]; omega, fun x hx => ?_⟩
      rw [List.mem_cons] at hx
      rcases hx with rfl | hx
      · exact h2
      · have := i2 x hx; omega
theorem parseR_Ok {s : ByteArray} {i : Ins} (h : parseR s = some i) : i.Ok := good_Ok (parseR_spec h).2
def flatIns (l : List Ins) : List Value := l.flatMap fun i => i.cells.toList
def OwnIns (w : World) (base : Nat) (v : Value) (l : List Ins) : Prop := w.ownsRow base 33 7 v l.length (flatIns l)
set_option maxRecDepth 100000 in
theorem ins_infos : ∃ (i : TypeInfo) (z : Value), Tryz.prog.info? 33 = some i ∧ i.zero = some z ∧ i.size = 7 ∧ z.cells.size = 7 ∧ i.bytes ≤ 1000 := ⟨_, _, rfl, rfl, rfl, rfl, by decide⟩
theorem append_ins_in {F : Fence} {n : Nat} {ops : Array Oper} {rest : List Oper} {o : Oper} {a : Act} {w : World} {Q : Exit → Act → World → Prop} (hgd : o.guard = none) (s x : Operand)
    (ho : o.op = .call { callee := .builtin .append, args := #[s, x], argTypes := #[22, 22] }) (base : Nat) (v : Value) (l : List Ins) (hs : a.eval s = v) (hown : OwnIns w base v l)
    (t : Ins) (g : Nat) (hx : a.eval x = .slice (some ⟨g, 0, none⟩) 1 1) (B : Blk w g t.cells 33) (hn : l.length ≤ 1000000) (hbase : base ≤ w.heap.size)
    (h : ∀ v' w', OwnIns w' base v' (l ++ [t]) → w.grownBy w' v.ownBlock → wpListIn F n Tryz.prog ops Q rest (a.put o.dst v') w') : wpListIn F n Tryz.prog ops Q (o :: rest) a w := by
  obtain ⟨i, z, hi, h1, h2, h3, h4⟩ := ins_infos
  have happ : (flatIns l) ++ t.cells.toList = flatIns (l ++ [t]) := by simp [flatIns]
  refine wpListIn_append_own w hgd s x 22 ho base 33 i z 7 i.bytes Tryz.underlying22 hi h1 h2 rfl h3 (by decide) v l.length (flatIns l) hs hown ⟨g, 0, none⟩ 1 1 t.cells.toList hx (by rw [Array.length_toList, Ins.len]) (fun j u hu => ?_) (fun u hu => ?_) (by unfold maxLen; omega) ?_ hbase (fun v' w' k1 k2 _ => h v' w' ?_ k2)
  · have := B.cell j
    rw [show (⟨g, 0, none⟩ : Addr).add j = ⟨g, j, none⟩ by simp [Addr.add]; omega]
    rw [this, ← Array.getElem?_toList]; exact hu
  · have := Ins.one t
    rw [Array.all_eq_true'] at this
    exact this u (by simpa using hu)
  · calc (l.length + 1) * i.bytes ≤ 1000001 * 1000 := Nat.mul_le_mul (by omega) h4
      _ ≤ 140737488355328 := by decide
  · unfold OwnIns
    rw [List.length_append, ← happ]
    exact k1
theorem ownIns_shape {w : World} {B : Nat} {v : Value} {l : List Ins} (h : OwnIns w B v l) : ∃ A c, v = .slice A l.length c := by
  rcases h.2 with ⟨rfl, h0⟩ | ⟨g, cap, cur, rfl, _⟩
  · exact ⟨none, 0, by rw [h0]⟩
  · exact ⟨_, _, rfl⟩
/-- Between two rounds. -/
structure RdAt (w : World) (s : List UInt8) (pre : List (List UInt8 × Bool)) (W : World) : Prop where
  d : Below w.heap.size w W
  nb : Blk W (w.heap.size + 1) #[.int .i64 (pre.length : Nat)] 3
  eb : Blk W (w.heap.size + 1 + 1) #[.int .i64 0] 24
  sb : ∃ x, Blk W (w.heap.size + 1 + 1 + 1) #[.string x] 9
  o : ∃ v acc rest, Blk W w.heap.size #[v] 22 ∧ OwnIns W (w.heap.size + 1 + 1 + 1 + 1) v acc ∧ (∀ i ∈ acc, i.Ok) ∧ acc.length = pre.length ∧ linesOf s = pre ++ rest ∧ readR s = readL rest pre.length acc
/-- Behind a wrong line. -/
structure RdOut (w : World) (s : List UInt8) (pre : List (List UInt8 × Bool)) (W : World) : Prop where
  d : Below w.heap.size w W
  ob : Blk W w.heap.size #[.slice none 0 0] 22
  nb : Blk W (w.heap.size + 1) #[.int .i64 (pre.length : Nat)] 3
  eb : Blk W (w.heap.size + 1 + 1) #[.int .i64 30] 24
  r : readR s = ([], pre.length, 30)
theorem blk_kept {A B : World} {row : Option Nat} {N k T : Nat} {cs : Array Value} (h : Blk A k cs T) (hg : A.grownBy B row) (hr : ∀ r, row = some r → N ≤ r ∧ ∃ o : Obj, A.heap[r]? = some o ∧ o.isCells = false) : Blk B k cs T :=
  (hg.block k h.lt (fun e => by
    obtain ⟨_, o, ho, hc⟩ := hr k e.symm
    unfold Blk at h
    rw [h] at ho
    cases ho; cases hc)).trans h
theorem own_kept {A B : World} {row : Option Nat} {N b e z n : Nat} {v : Value} {xs : List Value} (h : A.ownsRow b e z v n xs) (hg : A.grownBy B row) (hr : ∀ r, row = some r → N ≤ r ∧ ∃ o : Obj, A.heap[r]? = some o ∧ o.isCells = false) : B.ownsRow b e z v n xs := by
  refine h.kept hg ?_
  cases hv : v.ownBlock with
  | none => exact .inl rfl
  | some g =>
    refine .inr ?_
    intro e2
    obtain ⟨_, o, ho, hc⟩ := hr g e2.symm
    rcases h.2 with ⟨rfl, _⟩ | ⟨q, cap, cur, rfl, _, hh, _⟩
    · simp [Value.ownBlock] at hv
    · have : q = g := by simpa [Value.ownBlock] using hv
      subst this
      rw [hh] at ho
      cases ho; cases hc
theorem below_kept {w A B : World} {row : Option Nat} {N : Nat} (h : Below w.heap.size w A) (hN : w.heap.size ≤ N) (hg : A.grownBy B row) (hr : ∀ r, row = some r → N ≤ r ∧ ∃ o : Obj, A.heap[r]? = some o ∧ o.isCells = false) : Below w.heap.size w B :=
  h.grown hg h.size (fun k e => by have := (hr k e).1; omega)
theorem rdAt_own (w : World) (s : List UInt8) (N : Nat) (hN : w.heap.size ≤ N) : OwnFrom N (RdAt w s) := fun pre A B row h hg hr => by
  obtain ⟨d, nb, eb, ⟨x, sb⟩, v, acc, rest, ob, o, hx⟩ := h
  exact ⟨below_kept d hN hg hr, blk_kept nb hg hr, blk_kept eb hg hr, ⟨x, blk_kept sb hg hr⟩, v, acc, rest, blk_kept ob hg hr, own_kept o hg hr, hx⟩
theorem rdOut_own (w : World) (s : List UInt8) (N : Nat) (hN : w.heap.size ≤ N) : OwnFrom N (RdOut w s) := fun pre A B row h hg hr =>
  ⟨below_kept h.d hN hg hr, blk_kept h.ob hg hr, blk_kept h.nb hg hr, blk_kept h.eb hg hr, h.r⟩
theorem rdAt_set (w : World) (s : List UInt8) (pre : List (List UInt8 × Bool)) (W : World) (x : ByteArray) (h : RdAt w s pre W) : RdAt w s pre (W.setCell ⟨w.heap.size + 1 + 1 + 1, 0, none⟩ (.string x)) := by
  obtain ⟨d, nb, eb, ⟨y, sb⟩, v, acc, rest, ob, o, hx⟩ := h
  refine ⟨below_setc d (by omega) _ _, nb.far (by dsimp only; omega) _, eb.far (by dsimp only; omega) _, ⟨x, sb.set 0 (.string x)⟩, v, acc, rest, ob.far (by dsimp only; omega) _, ?_, hx⟩
  exact ownsRow_setCell_below o (by dsimp only; omega) _
/-- In the midst of a round. -/
structure RdMid (w : World) (N : Nat) (W Z : World) (n : Nat) (v : Value) (acc : List Ins) : Prop where
  d : Below w.heap.size w Z
  nb : Blk Z (w.heap.size + 1) #[.int .i64 n] 3
  eb : Blk Z (w.heap.size + 1 + 1) #[.int .i64 0] 24
  sb : ∃ x, Blk Z (w.heap.size + 1 + 1 + 1) #[.string x] 9
  ob : Blk Z w.heap.size #[v] 22
  o : OwnIns Z (w.heap.size + 1 + 1 + 1 + 1) v acc
  k : KeepsFrom N W Z
  z : W.heap.size ≤ Z.heap.size
  s : Z.heap[w.heap.size + 1 + 1 + 1]? = W.heap[w.heap.size + 1 + 1 + 1]?
theorem RdMid.below {w W Z Z' : World} {N n : Nat} {v : Value} {acc : List Ins} (h : RdMid w N W Z n v acc) (e : Below Z.heap.size Z Z') : RdMid w N W Z' n v acc := by
  obtain ⟨x, sb⟩ := h.sb
  refine ⟨h.d.trans (e.mono h.d.size), h.nb.below e, h.eb.below e, ⟨x, sb.below e⟩, h.ob.below e, ?_, h.k.trans ((KeepsOthers.of_grownBy (grownN_of_below e) (fun _ _ e => by cases e)).from N), Nat.le_trans h.z e.size, (e.block _ sb.lt).trans h.s⟩
  have ho := h.o
  refine ho.kept (grownN_of_below e) ?_
  cases v.ownBlock with
  | none => exact .inl rfl
  | some k => exact .inr (by simp)
theorem own_cells_blk {w : World} {B e z n g : Nat} {v : Value} {xs : List Value} (h : w.ownsRow B e z v n xs) (hv : v.ownBlock = some g) : B ≤ g ∧ ∃ cs, w.heap[g]? = some (.cells cs e (0, 0)) := by
  rcases h.2 with ⟨rfl, _⟩ | ⟨q, cap, cur, rfl, hB, hh, _⟩
  · simp [Value.ownBlock] at hv
  · have : q = g := by simpa [Value.ownBlock] using hv
    subst this
    exact ⟨hB, _, hh⟩
theorem RdMid.app {w W Y W2 : World} {N n : Nat} {v v' : Value} {acc acc' : List Ins} (h : RdMid w N W Y n v acc) (hG : Y.grownBy W2 v.ownBlock) (ho : OwnIns W2 (w.heap.size + 1 + 1 + 1 + 1) v' acc') :
    Blk W2 w.heap.size #[v] 22 ∧ RdMid w N W (W2.setCell ⟨w.heap.size, 0, none⟩ v') n v' acc' := by
  have far : ∀ {k T : Nat} {cs : Array Value}, Blk Y k cs T → k < w.heap.size + 1 + 1 + 1 + 1 → Blk W2 k cs T := by
    intro k T cs hb hk
    exact (hG.block k hb.lt (fun e => by have := (own_cells_blk h.o e.symm).1; omega)).trans hb
  obtain ⟨x, sb⟩ := h.sb
  have ob2 := far h.ob (by omega)
  have d2 : Below w.heap.size w W2 := h.d.grown hG h.d.size (fun k e => by have := (own_cells_blk h.o e).1; omega)
  refine ⟨ob2, below_setc d2 (Nat.le_refl _) _ _, (far h.nb (by omega)).far (by dsimp only; omega) _, (far h.eb (by omega)).far (by dsimp only; omega) _, ⟨x, (far sb (by omega)).far (by dsimp only; omega) _⟩, ob2.set 0 v', ownsRow_setCell_below ho (by dsimp only; omega) _, ?_, ?_, ?_⟩
  · exact (h.k.trans ((KeepsOthers.of_grownBy hG (fun j o e hj => by
      obtain ⟨_, cs, hc⟩ := own_cells_blk h.o e
      rw [hc] at hj; cases hj; rfl)).from N)).trans ((KeepsOthers.setCell _ _ _).from N)
  · exact Nat.le_trans h.z (Nat.le_trans hG.size (by simp [World.setCell]))
  · exact (Below.heap_setCell _ _ _ _ (by dsimp only; omega)).trans ((hG.block _ sb.lt (fun e => by have := (own_cells_blk h.o e.symm).1; omega)).trans h.s)
/-- A wrong line: what the results hold. -/
theorem RdMid.out {w W X : World} {N n : Nat} {v : Value} {acc : List Ins} {s : List UInt8} {pre : List (List UInt8 × Bool)} (h : RdMid w N W X n v acc) (hp : pre.length = n) (hr : readR s = ([], n, 30)) :
    KeepsFrom N W (((X.setCell ⟨w.heap.size, 0, none⟩ (.slice none 0 0)).setCell ⟨w.heap.size + 1, 0, none⟩ (.int .i64 n)).setCell ⟨w.heap.size + 1 + 1, 0, none⟩ (.int .i64 30)).drew ∧
    RdOut w s pre (((X.setCell ⟨w.heap.size, 0, none⟩ (.slice none 0 0)).setCell ⟨w.heap.size + 1, 0, none⟩ (.int .i64 n)).setCell ⟨w.heap.size + 1 + 1, 0, none⟩ (.int .i64 30)).drew := by
  have d1 := below_setc h.d (Nat.le_refl _) 0 (.slice none 0 0)
  have d2 := below_setc d1 (by omega : w.heap.size ≤ w.heap.size + 1) 0 (.int .i64 n)
  have d3 := below_setc d2 (by omega : w.heap.size ≤ w.heap.size + 1 + 1) 0 (.int .i64 30)
  have o3 : Blk (((X.setCell ⟨w.heap.size, 0, none⟩ (.slice none 0 0)).setCell ⟨w.heap.size + 1, 0, none⟩ (.int .i64 n)).setCell ⟨w.heap.size + 1 + 1, 0, none⟩ (.int .i64 30)) w.heap.size #[.slice none 0 0] 22 :=
    ((h.ob.set 0 (.slice none 0 0)).far (by dsimp only; omega) _).far (by dsimp only; omega) _
  have n3 : Blk (((X.setCell ⟨w.heap.size, 0, none⟩ (.slice none 0 0)).setCell ⟨w.heap.size + 1, 0, none⟩ (.int .i64 n)).setCell ⟨w.heap.size + 1 + 1, 0, none⟩ (.int .i64 30)) (w.heap.size + 1) #[.int .i64 n] 3 :=
    ((h.nb.far (by dsimp only; omega) _).set 0 (.int .i64 n)).far (by dsimp only; omega) _
  have e3 : Blk (((X.setCell ⟨w.heap.size, 0, none⟩ (.slice none 0 0)).setCell ⟨w.heap.size + 1, 0, none⟩ (.int .i64 n)).setCell ⟨w.heap.size + 1 + 1, 0, none⟩ (.int .i64 30)) (w.heap.size + 1 + 1) #[.int .i64 30] 24 :=
    ((h.eb.far (by dsimp only; omega) _).far (by dsimp only; omega) _).set 0 (.int .i64 30)
  have k3 := ((h.k.trans ((KeepsOthers.setCell X ⟨w.heap.size, 0, none⟩ (.slice none 0 0)).from N)).trans ((KeepsOthers.setCell _ ⟨w.heap.size + 1, 0, none⟩ (.int .i64 n)).from N)).trans ((KeepsOthers.setCell _ ⟨w.heap.size + 1 + 1, 0, none⟩ (.int .i64 30)).from N)
  subst hp
  exact ⟨k3.trans ((KeepsOthers.drew _).from N), d3.trans ⟨rfl, rfl, rfl, Nat.le_refl _, fun _ _ => rfl⟩, o3, n3, e3, hr⟩
def ReadPost (w : World) (r : List Ins × Nat × Int) : Ending → World → Prop := fun e w' =>
  ∃ A c, e = .returned (.tuple #[.slice A r.1.length c, .int .i64 r.2.1, .int .i64 r.2.2]) ∧ InsRow w' A r.1 ∧ (∀ i ∈ r.1, i.Ok) ∧ Below w.heap.size w w'
theorem flatIns_get : ∀ (l : List Ins) (k : Nat) (i : Ins), l[k]? = some i → ∀ f v, i.cells[f]? = some v → (flatIns l)[k * 7 + f]? = some v
  | [], k, i, h, _, _, _ => by cases k <;> cases h
  | j :: l, 0, i, h, f, v, hf => by
    obtain rfl : j = i := by simpa using h
    unfold flatIns
    have hlt : f < j.cells.toList.length := by
      have := (Array.getElem?_eq_some_iff.1 hf).1
      rw [Array.length_toList]; exact this
    rw [List.flatMap_cons, List.getElem?_append_left (by omega), Nat.zero_mul, Nat.zero_add, Array.getElem?_toList]; exact hf
  | j :: l, k + 1, i, h, f, v, hf => by
    have ih := flatIns_get l k i (by simpa using h) f v hf
    unfold flatIns at ih ⊢
    have hl : j.cells.toList.length = 7 := by rw [Array.length_toList, Ins.len]
    rw [List.flatMap_cons, List.getElem?_append_right (by omega), hl, show (k + 1) * 7 + f - 7 = k * 7 + f by omega]; exact ih
theorem ownIns_row {w : World} {B c : Nat} {A : Option Addr} {l : List Ins} (h : OwnIns w B (.slice A l.length c) l) : InsRow w A l := fun hne => by
  rcases h.2 with ⟨_, h0⟩ | ⟨g, cap, cur, hv, hB, hh, _⟩
  · exact absurd (List.eq_nil_of_length_eq_zero h0) hne
  · have hA : A = some ⟨g, 0, none⟩ := by injection hv
    subst hA
    refine ⟨⟨g, 0, none⟩, rfl, (Array.getElem?_eq_some_iff.1 hh).1, fun k i hk f v hf => ?_⟩
    have h1 := h.cells (g := g) rfl (k * 7 + f) v (flatIns_get l k i hk f v hf)
    rw [Addr.add_add]
    exact h1
set_option maxRecDepth 100000 in
/-- The results, when the round's deferred calls are over. -/
theorem read_fin {w Z : World} {D : Nat} {l : List Ins} {k e : Int} {A : Option Addr} {c : Nat} {r : List Ins × Nat × Int} (tmps : Array Value) (d : Below w.heap.size w Z) (ob : Blk Z w.heap.size #[.slice A l.length c] 22) (nb : Blk Z (w.heap.size + 1) #[.int .i64 k] 3) (eb : Blk Z (w.heap.size + 1 + 1) #[.int .i64 e] 24)
    (hK : Z.heap[D]? = some (.deferred (some []))) (hD : w.heap.size ≤ D) (hro : InsRow (Z.putObj D (.deferred none)) A l) (hok : ∀ i ∈ l, i.Ok) (hr : r.1 = l ∧ (r.2.1 : Int) = k ∧ r.2.2 = e)
    (h2 : tmps.getD 2 undef = .pointer (some ⟨w.heap.size, 0, none⟩)) (h3 : tmps.getD 3 undef = .pointer (some ⟨w.heap.size + 1, 0, none⟩)) (h4 : tmps.getD 4 undef = .pointer (some ⟨w.heap.size + 1 + 1, 0, none⟩)) :
    ∃ v, (results Tryz.f5 tmps).run Tryz.prog (Z.putObj D (.deferred none)) = .ok v (Z.putObj D (.deferred none)) ∧ ReadPost w r (.returned v) (Z.putObj D (.deferred none)) := by
  have hg := grownBy_putObj' Z D (.deferred none)
  have hrow : ∀ q, some D = some q → w.heap.size ≤ q ∧ ∃ o : Obj, Z.heap[q]? = some o ∧ o.isCells = false := fun q e => by cases e; exact ⟨hD, _, hK, rfl⟩
  have c1 := (blk_kept ob hg hrow).cell 0
  have c2 := (blk_kept nb hg hrow).cell 0
  have c3 := (blk_kept eb hg hrow).cell 0
  have dd := below_kept d (Nat.le_refl _) hg hrow
  obtain ⟨hr1, hr2, hr3⟩ := hr
  generalize Z.putObj D (.deferred none) = Y at *
  have h2' : tmps[2]?.getD undef = .pointer (some ⟨w.heap.size, 0, none⟩) := by simpa using h2
  have h3' : tmps[3]?.getD undef = .pointer (some ⟨w.heap.size + 1, 0, none⟩) := by simpa using h3
  have h4' : tmps[4]?.getD undef = .pointer (some ⟨w.heap.size + 1 + 1, 0, none⟩) := by simpa using h4
  refine ⟨.tuple #[.slice A l.length c, .int .i64 k, .int .i64 e], ?_, A, c, by rw [hr1, hr2, hr3], by rw [hr1]; exact hro, by rw [hr1]; exact hok, dd⟩
  simp [results, Tryz.f5, go_sem, h2', h3', h4', c1, c2, c3]
set_option maxRecDepth 100000 in
set_option maxHeartbeats 4000000 in
theorem Read_any (s : List UInt8) (w : World) (hs : s.length ≤ 1000000) (hL : LaidOk w) : Calls Tryz.prog 5 #[.string ⟨s.toArray⟩] w (ReadPost w (readR s)) := by
  have hL' := Lib.hid hL
  clear hL
  refine (callsIn_wide (n := 5)).1 ?_
  refine callsIn_of_wp_marks Tryz.func5 rfl trivial ?_ rfl
  simp only [Tryz.ntmps5, List.size_toArray, List.length_cons, List.length_nil, Nat.reduceAdd, Nat.reduceSub, Array.replicate_succ, Array.replicate_zero, List.push_toArray, List.append_toArray, List.nil_append, List.cons_append]
  gi_wp2_with (refine ⟨trivial, ?_⟩; gi_at_call 12; refine (callsIn_wide.2 (lines_any _ _)).mono ?_; rintro e w' ⟨rfl, rfl⟩)
  generalize hW : World.alloc (World.alloc (World.alloc (World.alloc w _) _) _) _ = W0
  have H0 : RdAt w s [] W0 := by
    obtain ⟨B1, d1, s1⟩ := arg_box (cs := #[.slice none 0 0]) (T := 22) (rfl : w.alloc _ = _)
    obtain ⟨B2, d2, s2⟩ := arg_box (cs := #[.int .i64 0]) (T := 3) (rfl : (w.alloc (.cells #[.slice none 0 0] 22)).alloc _ = _)
    obtain ⟨B3, d3, s3⟩ := arg_box (cs := #[.int .i64 0]) (T := 24) (rfl : ((w.alloc (.cells #[.slice none 0 0] 22)).alloc (.cells #[.int .i64 0] 3)).alloc _ = _)
    obtain ⟨B4, d4, s4⟩ := arg_box (cs := #[.string ⟨s.toArray⟩]) (T := 9) hW
    have d34 := d3.trans (d4.mono (by simp [World.size_alloc]))
    have d24 := d2.trans (d34.mono (by simp [World.size_alloc]))
    have d14 := d1.trans (d24.mono (by simp [World.size_alloc]))
    have q2 := (B2.below d3).below d4
    have q3 := B3.below d4
    simp only [World.size_alloc] at q2 q3 B4
    exact ⟨d14, q2, q3, ⟨_, B4⟩, _, [], _, ((B1.below d2).below d3).below d4, World.ownsRow_nil _ _ _ _, (fun i hi => by cases hi), rfl, rfl, rfl⟩
  have HB : Blk W0 (w.heap.size + 1 + 1 + 1) #[.string ⟨s.toArray⟩] 9 := by
    have h := Blk.new (((w.alloc (.cells #[.slice none 0 0] 22)).alloc (.cells #[.int .i64 0] 3)).alloc (.cells #[.int .i64 0] 24)) #[.string ⟨s.toArray⟩] 9
    simp only [World.size_alloc] at h
    rw [hW] at h; exact h
  have hsz : w.heap.size + 1 + 1 + 1 + 1 = W0.heap.size := by rw [← hW]; simp only [World.size_alloc]
  clear hW
  refine range_lines 5 (by decide) (w.heap.size + 1 + 1 + 1) s (by omega) rfl HB rfl (RdAt w s) (RdOut w s) (fun _ _ h => hL'.out.below h.d) (rdAt_set w s) (rdAt_own w s _ (by omega)) (rdOut_own w s _ (by omega)) H0 ?a1 ?assign ?body ?done ?stop
  case assign =>
    intro l x W K hK
    gi_wp2
    exact hK
  case body =>
    rintro l pre ⟨x1, x2⟩ W H hpre
    obtain ⟨d, nb, eb, ⟨y, sb⟩, v, acc, rest, ob, o, hok, hal, hre, hrr⟩ := H
    have hlo := linesOf_small s
    have hpl : pre.length ≤ 1000000 := by
      have := hpre.length_le
      rw [List.length_append, List.length_singleton] at this
      have := hlo.1; omega
    have hx1 : x1.length ≤ 1000000 := by
      have h : x1.length ≤ s.length := hlo.2 (x1, x2) (hpre.subset (List.mem_append.2 (.inr (List.mem_singleton.2 rfl))))
      omega
    clear hlo
    have c1 : W.cell? ⟨w.heap.size + 1, 0, none⟩ = some (.int .i64 (pre.length : Nat)) := nb.cell 0
    have f1 : W.frozen? ⟨w.heap.size + 1, 0, none⟩ = false := nb.frozen 0
    have hw1 : wrap64 ((pre.length : Int) + 1) = ((pre.length + 1 : Nat) : Int) := by unfold wrap64; omega
    have HP := Lib.hid fun (V : World) (dV : Below w.heap.size w V) => Parse_any ⟨x1.toArray⟩ V (by rw [Lib.size_eq]; simp; omega) (hL'.out.below dV)
    have hpo : ∀ i, parseR ⟨x1.toArray⟩ = some i → i.Ok := fun i h => parseR_Ok h
    dsimp only
    generalize hr : parseR ⟨x1.toArray⟩ = r at *
    obtain ⟨ci, en, hen, hcr⟩ := insEnd_two r
    unfold ParsePost at HP
    simp only [hen] at HP
    unfold Ins.cells at HP
    clear hen
    gi_upto_region 5 with fail
    generalize hZ : World.setCell W _ _ = Z
    have HM := Lib.hid (show RdMid w W0.heap.size W Z (pre.length + 1) v acc from hZ ▸
      ⟨below_setc d (by omega) _ _, nb.set 0 _, eb.far (by dsimp only; omega) _, ⟨y, sb.far (by dsimp only; omega) _⟩, ob.far (by dsimp only; omega) _, ownsRow_setCell_below o (by dsimp only; omega) _, (KeepsOthers.setCell _ _ _).from _, by simp [World.setCell], Below.heap_setCell _ _ _ _ (by dsimp only; omega)⟩)
    clear hZ d nb eb sb ob o c1 f1
    gi_upto_region 6 with (first | ((with_reducible refine And.intro ?_ ?_); (exact trivial); gi_at_call 10; refine (CallsIn.inRound l (callsIn_wide.2 (HP.out _ HM.out.d))).mono ?_; clear HP; rintro e V ⟨rfl, dV⟩; replace HM := Lib.hid (HM.out.below dV); clear dV))
    generalize hX : World.alloc V _ = X
    obtain ⟨BX, dX, sX⟩ := arg_box (cs := ci.cells) hX
    replace HM := Lib.hid (HM.out.below dX)
    replace BX := Lib.hid BX
    clear dX hX
    have hrest : ∃ q, rest = (x1, x2) :: q := by
      obtain ⟨q, hq⟩ := hpre
      rw [hre, List.append_assoc] at hq
      exact ⟨q, (List.append_cancel_left hq).symm⟩
    obtain ⟨q, rfl⟩ := hrest
    by_cases hgood : r = some ci ∧ en = 0 ∧ x2 = true
    · obtain ⟨rfl, rfl, rfl⟩ := hgood
      have hrr2 := Lib.hid (hrr.trans (readL_yes x1 q pre.length acc ci hr))
      have hci := hpo ci rfl
      obtain ⟨A, c, rfl⟩ := ownIns_shape HM.out.o
      have g0 : X.cell? ⟨w.heap.size, 0, none⟩ = some (.slice A acc.length c) := HM.out.ob.cell 0
      have f0 : X.cell? ⟨V.heap.size, 0, none⟩ = some (.int .i64 ci.op) := BX.out.cell 0
      have f1 : X.cell? ⟨V.heap.size, 1, none⟩ = some (.int .i64 ci.rd) := BX.out.cell 1
      have f2 : X.cell? ⟨V.heap.size, 2, none⟩ = some (.int .i64 ci.rs1) := BX.out.cell 2
      have f3 : X.cell? ⟨V.heap.size, 3, none⟩ = some (.int .i64 ci.rs2) := BX.out.cell 3
      have f4 : X.cell? ⟨V.heap.size, 4, none⟩ = some (.int .i64 ci.imm) := BX.out.cell 4
      have f5 : X.cell? ⟨V.heap.size, 5, none⟩ = some (.bool ci.aq) := BX.out.cell 5
      have f6 : X.cell? ⟨V.heap.size, 6, none⟩ = some (.bool ci.rl) := BX.out.cell 6
      have hac : acc.length ≤ 1000000 := by omega
      have hms := HM.out.nb.lt
      have hss : w.heap.size + 1 + 1 + 1 + 1 ≤ X.heap.size := by have := HM.out.sb; obtain ⟨_, b⟩ := this; have := b.lt; omega
      clear hcr hpo hrr
      replace hal := Lib.hid hal
      gi_wp2_with (first
        | (gi_at_builtin; (generalize hY : World.alloc X _ = Y; obtain ⟨BY, dY, sY⟩ := arg_box (cs := ci.cells) hY; clear hY; have HN := Lib.hid (HM.out.below dY)); refine append_ins_in rfl _ _ rfl (w.heap.size + 1 + 1 + 1 + 1) _ acc rfl HN.out.o ci X.heap.size rfl BY hac (by have := dY.size; omega) ?_; clear dY; rintro v' W'' ho hG; obtain ⟨bz, HF⟩ := HN.out.app hG ho; have fz0 := bz.frozen 0; have cz0 : W''.cell? ⟨w.heap.size, 0, none⟩ = some (.slice A acc.length c) := bz.cell 0; obtain ⟨A', c', e'⟩ := ownIns_shape ho; rw [List.length_append, List.length_singleton] at e'; subst e'))
      refine ⟨HF.k, ⟨HF.z, HF.s⟩, ⟨HF.d, ?_, HF.eb, HF.sb, _, _, q, HF.ob, HF.o, ?_, ?_, ?_, ?_⟩⟩
      · rw [List.length_append, List.length_singleton]; exact HF.nb
      · intro i hi
        rw [List.mem_append, List.mem_singleton] at hi
        rcases hi with hi | rfl
        · exact hok i hi
        · exact hci
      · rw [List.length_append, List.length_append, List.length_singleton, List.length_singleton, hal.out]
      · rw [hre, List.append_assoc]; rfl
      · rw [List.length_append, List.length_singleton]; exact hrr2.out
    · have hbad : r = none ∨ x2 = false := by
        rcases hcr with ⟨h1, h2⟩ | ⟨h1, h2⟩
        · cases x2
          · exact .inr rfl
          · exact absurd ⟨h1, h2, rfl⟩ hgood
        · exact .inl h1
      have hrr2 := Lib.hid (hrr.trans (readL_no x1 x2 q pre.length acc (by rw [hr]; exact hbad)))
      have g0 : X.cell? ⟨w.heap.size + 1, 0, none⟩ = some (.int .i64 (pre.length + 1 : Nat)) := HM.out.nb.cell 0
      have hb : (en != 0) = true ∨ (en != 0) = false ∧ x2 = false := by
        rcases hcr with ⟨h1, rfl⟩ | ⟨h1, rfl⟩
        · refine .inr ⟨rfl, ?_⟩
          rcases hbad with h | h
          · rw [h1] at h; cases h
          · exact h
        · exact .inl rfl
      clear hcr hpo hrr hgood hbad
      rcases hb with hb | ⟨hb, rfl⟩
      · gi_wp2_with fail
        have fo : X.frozen? ⟨w.heap.size, 0, none⟩ = false := HM.out.ob.frozen 0
        have co : X.cell? ⟨w.heap.size, 0, none⟩ = some v := HM.out.ob.cell 0
        have fn1 : X.frozen? ⟨w.heap.size + 1, 0, none⟩ = false := HM.out.nb.frozen 0
        have fe : X.frozen? ⟨w.heap.size + 1 + 1, 0, none⟩ = false := HM.out.eb.frozen 0
        have ce : X.cell? ⟨w.heap.size + 1 + 1, 0, none⟩ = some (.int .i64 0) := HM.out.eb.cell 0
        gi_region
        all_goals
          gi_wp2_with fail
          obtain ⟨k1, k2⟩ := HM.out.out (pre := pre ++ [(x1, x2)]) (by simp) hrr2.out
          exact ⟨k1, rfl, k2⟩
      · gi_wp2_with fail
        have fo : X.frozen? ⟨w.heap.size, 0, none⟩ = false := HM.out.ob.frozen 0
        have co : X.cell? ⟨w.heap.size, 0, none⟩ = some v := HM.out.ob.cell 0
        have fn1 : X.frozen? ⟨w.heap.size + 1, 0, none⟩ = false := HM.out.nb.frozen 0
        have fe : X.frozen? ⟨w.heap.size + 1 + 1, 0, none⟩ = false := HM.out.eb.frozen 0
        have ce : X.cell? ⟨w.heap.size + 1 + 1, 0, none⟩ = some (.int .i64 0) := HM.out.eb.cell 0
        gi_region
        all_goals
          gi_wp2_with fail
          obtain ⟨k1, k2⟩ := HM.out.out (pre := pre ++ [(x1, false)]) (by simp) hrr2.out
          exact ⟨k1, rfl, k2⟩
  case done =>
    rintro D W hD H hK
    obtain ⟨d, nb, eb, ⟨y, sb⟩, v, acc, rest, ob, o, hok, hal, hre, hrr⟩ := H
    have hr0 : rest = [] := List.self_eq_append_right.1 hre
    subst hr0
    obtain ⟨A, c, rfl⟩ := ownIns_shape o
    have co : W.cell? ⟨w.heap.size, 0, none⟩ = some (.slice A acc.length c) := ob.cell 0
    have fo : W.frozen? ⟨w.heap.size, 0, none⟩ = false := ob.frozen 0
    have cn : W.cell? ⟨w.heap.size + 1, 0, none⟩ = some (.int .i64 ((linesOf s).length : Nat)) := nb.cell 0
    have fn : W.frozen? ⟨w.heap.size + 1, 0, none⟩ = false := nb.frozen 0
    have ce : W.cell? ⟨w.heap.size + 1 + 1, 0, none⟩ = some (.int .i64 0) := eb.cell 0
    have fe : W.frozen? ⟨w.heap.size + 1 + 1, 0, none⟩ = false := eb.frozen 0
    clear hal hre
    replace hrr := Lib.hid hrr
    gi_wp2_with fail
    generalize hZ : ((W.setCell _ _).setCell _ _).setCell _ _ = Z
    have d3 : Below w.heap.size w Z := hZ ▸ below_setc (below_setc (below_setc d (Nat.le_refl _) 0 _) (by omega : w.heap.size ≤ w.heap.size + 1) 0 _) (by omega : w.heap.size ≤ w.heap.size + 1 + 1) 0 _
    have o3 : Blk Z w.heap.size #[.slice A acc.length c] 22 := hZ ▸ ((ob.set 0 _).far (by dsimp only; omega) _).far (by dsimp only; omega) _
    have n3 : Blk Z (w.heap.size + 1) #[.int .i64 0] 3 := hZ ▸ ((nb.far (by dsimp only; omega) _).set 0 _).far (by dsimp only; omega) _
    have e3 : Blk Z (w.heap.size + 1 + 1) #[.int .i64 0] 24 := hZ ▸ ((eb.far (by dsimp only; omega) _).far (by dsimp only; omega) _).set 0 _
    have K3 : Z.heap[D]? = some (.deferred (some [])) := hZ ▸ (Below.heap_setCell _ _ _ _ (by dsimp only; omega)).trans ((Below.heap_setCell _ _ _ _ (by dsimp only; omega)).trans ((Below.heap_setCell _ _ _ _ (by dsimp only; omega)).trans hK))
    have own3 : OwnIns Z (w.heap.size + 1 + 1 + 1 + 1) (.slice A acc.length c) acc := hZ ▸ ownsRow_setCell_below (ownsRow_setCell_below (ownsRow_setCell_below o (by dsimp only; omega) _) (by dsimp only; omega) _) (by dsimp only; omega) _
    have own4 := own_kept (N := 0) own3 (grownBy_putObj' Z D (.deferred none)) (fun q e => by cases e; exact ⟨Nat.zero_le _, _, K3, rfl⟩)
    clear hZ
    refine ⟨by simp, .inl ⟨_, _, rfl, run_takeDeferred K3, ?_⟩⟩
    exact read_fin _ d3 o3 n3 e3 K3 (by omega) (ownIns_row own4) hok (by rw [hrr.out]; exact ⟨rfl, rfl, rfl⟩) rfl rfl rfl
  case stop =>
    rintro D pre W hD hpre H hK
    gi_wp2_with fail
    refine ⟨by simp, .inl ⟨_, _, rfl, run_takeDeferred hK, ?_⟩⟩
    exact read_fin (l := []) _ H.d H.ob H.nb H.eb hK (by omega) (fun h => absurd rfl h) (fun i hi => by cases hi) (by rw [H.r]; exact ⟨rfl, rfl, rfl⟩) rfl rfl rfl
end Go.Proofs.YtihcljaphajdfaaGreatDoor.Hand
