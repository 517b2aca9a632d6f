/- DERIVED. Maps whose keys are whole numbers, as functions from a number to what stands there; no program. -/
import Derived.Maps.Own
import Derived.Maps.OwnOps
import Derived.Maps.OwnSet
import Derived.Maps.OwnIn
import Derived.Maps.Views
import Derived.Maps.Keyed
import Derived.Below
import Derived.WalkKit
namespace Go.Proofs.Ytdfapbfpmjbnhaa.M
open Go Go.RowKit
set_option linter.unusedVariables false
/-- How elements lie and read. -/
structure Elem (α : Type) where
  val : α → Value
  dat : α → DataW Unit
  R : Value → Option (DataW Unit × List MemPlace)
  ok : α → Prop
  rd : ∀ a, ok a → R (val a) = some (dat a, [])
  inv : ∀ v a ps, R v = some (dat a, ps) → v = val a
  zero : α
  okz : ok zero
theorem plainElem_bool_inv {P : Program} {e : TypeId} (he : P.underlying e = some .bool) {v : Value} {x : Bool} {ps : List MemPlace} (h : plainElem (H := Unit) P e v = some (.lit (.bool x), ps)) : v = .bool x := by
  unfold plainElem at h
  rw [he] at h
  cases v <;> simp at h
  rw [h.1]
def boolE (P : Program) (e : TypeId) (he : P.underlying e = some .bool) : Elem Bool where
  val x := .bool x
  dat x := .lit (.bool x)
  R := plainElem P e
  ok _ := True
  rd a _ := plainElem_bool he a
  inv v a ps h := plainElem_bool_inv he h
  zero := false
  okz := trivial
def intE (P : Program) (e : TypeId) (q : IntKind) (he : P.underlying e = some (.int q)) : Elem Int where
  val x := .int q x
  dat x := .lit (.int q x)
  R := plainElem P e
  ok x := (Lit.int q x).wf = true
  rd a h := plainElem_int he h
  inv v a ps h := by
    obtain ⟨b, rfl, hb, _⟩ := plainElem_int_inv he h
    simp only [Prod.mk.injEq, DataW.lit.injEq, Lit.int.injEq, true_and] at hb
    rw [hb.1]
  zero := 0
  okz := by cases q <;> decide
/-- Block b is a map that has just what f says. -/
def MapAt {α : Type} (P : Program) (k : TypeId) (q : IntKind) (E : Elem α) (w : World) (b n : Nat) (f : Int → Option α) : Prop :=
  ∃ D, w.ownsMap P k E.R b n D ∧ Maps.IsMap D ∧ ∀ x, (f x = none → Maps.has D (.int q x) = false) ∧ ∀ a, f x = some a → Maps.has D (.int q x) = true ∧ ∀ z, D.atKey (.int q x) z = E.dat a
section
variable {α : Type} {P : Program} {k : TypeId} {q : IntKind} {E : Elem α} {w w' : World} {b n : Nat} {f : Int → Option α}
theorem MapAt.made : MapAt P k q E (w.alloc (.map #[] 0)) w.heap.size 0 (fun _ => none) :=
  ⟨_, World.ownsMap_made w P k E.R, Maps.isMap_empty, fun x => ⟨fun _ => rfl, fun a h => by cases h⟩⟩
theorem MapAt.lt (h : MapAt P k q E w b n f) : b < w.heap.size := by obtain ⟨D, hD, _⟩ := h; exact hD.lt
theorem MapAt.kept {row : Option Nat} (h : MapAt P k q E w b n f) (hg : w.grownBy w' row) (hne : some b ≠ row) : MapAt P k q E w' b n f := by
  obtain ⟨D, hD, h2, h3⟩ := h; exact ⟨D, hD.kept hg hne, h2, h3⟩
theorem MapAt.below (h : MapAt P k q E w b n f) (d : Below w.heap.size w w') : MapAt P k q E w' b n f :=
  h.kept (row := none) ⟨d.os, d.tape, d.output, d.size, fun j hj _ => d.block j hj⟩ (by simp)
theorem MapAt.set (h : MapAt P k q E w b n f) {a : Addr} (ha : b ≠ a.block) (u : Value) : MapAt P k q E (w.setCell a u) b n f := by
  obtain ⟨D, hD, h2, h3⟩ := h; exact ⟨D, hD.setCell ha u, h2, h3⟩
theorem MapAt.same (h : MapAt P k q E w b n f) (e : w'.heap[b]? = w.heap[b]?) : MapAt P k q E w' b n f := by
  obtain ⟨D, ⟨es, ck, h1, h4⟩, h2, h3⟩ := h; exact ⟨D, ⟨es, ck, e.trans h1, h4⟩, h2, h3⟩
theorem MapAt.more (h : MapAt P k q E w b n f) {m : Nat} (hm : n ≤ m) : MapAt P k q E w b m f := by
  obtain ⟨D, hD, h2, h3⟩ := h; exact ⟨D, hD.mono hm, h2, h3⟩
theorem MapAt.isMap (h : MapAt P k q E w b n f) : ∃ es ck, w.heap[b]? = some (.map es ck) := by
  obtain ⟨D, ⟨es, ck, h1, _⟩, _⟩ := h; exact ⟨es, ck, h1⟩
/-- What a lookup tells. -/
def mapAt (E : Elem α) (f : Int → Option α) (x : Int) : α := (f x).getD E.zero
theorem MapAt.look_ok {t e : TypeId} (h : MapAt P k q E w b n f) (hk : P.underlying k = some (.int q)) (ht : P.underlying t = some (.map k e)) (hz : (zeroValue e).run P w = .ok (E.val E.zero) w) {x : Int} (hx : (Lit.int q x).wf = true) :
    (Instr.lookup t (.map (some b)) (.int q x) true).run P w = .ok (.tuple #[E.val (mapAt E f x), .bool (f x).isSome]) w := by
  obtain ⟨D, hD, h2, h3⟩ := h
  obtain ⟨v, ps, hr, hv⟩ := hD.look_ok (Maps.int_keyed hk) ht hz (E.rd _ E.okz) (Maps.keyOf_int_mk hk hx)
  unfold mapAt
  cases hf : f x with
  | none =>
    have h4 := (h3 x).1 hf
    rw [Maps.atKey_of_not_has h4] at hv
    rw [hr, h4, E.inv v _ ps hv]; rfl
  | some a =>
    obtain ⟨h4, h5⟩ := (h3 x).2 a hf
    rw [h5] at hv
    rw [hr, h4, E.inv v _ ps hv]; rfl
theorem MapAt.look {t e : TypeId} (h : MapAt P k q E w b n f) (hk : P.underlying k = some (.int q)) (ht : P.underlying t = some (.map k e)) (hz : (zeroValue e).run P w = .ok (E.val E.zero) w) {x : Int} (hx : (Lit.int q x).wf = true) :
    (Instr.lookup t (.map (some b)) (.int q x) false).run P w = .ok (E.val (mapAt E f x)) w := by
  obtain ⟨D, hD, h2, h3⟩ := h
  obtain ⟨v, ps, hr, hv⟩ := hD.lookup (Maps.int_keyed hk) ht hz (E.rd _ E.okz) (Maps.keyOf_int_mk hk hx)
  unfold mapAt
  cases hf : f x with
  | none =>
    rw [Maps.atKey_of_not_has ((h3 x).1 hf)] at hv
    rw [hr, E.inv v _ ps hv]; rfl
  | some a =>
    rw [((h3 x).2 a hf).2] at hv
    rw [hr, E.inv v _ ps hv]; rfl
/-- One entry more, or another one. -/
def mapPut (f : Int → Option α) (x : Int) (a : α) : Int → Option α := fun y => if y = x then some a else f y
theorem MapAt.put {t e : TypeId} (h : MapAt P k q E w b n f) (hk : P.underlying k = some (.int q)) (ht : P.underlying t = some (.map k e)) (hn : n < maxLen) {x : Int} (hx : (Lit.int q x).wf = true) {a : α} (ha : E.ok a) :
    ∃ w', (Instr.mapUpdate t (.map (some b)) (.int q x) (E.val a)).run P w = .ok () w' ∧ MapAt P k q E w' b (n + 1) (mapPut f x a) ∧ w.grownBy w' (some b) := by
  obtain ⟨D, hD, h2, h3⟩ := h
  obtain ⟨w', hr, h4, h5⟩ := hD.update (Maps.int_keyed hk) ht hn (Maps.keyOf_int_mk hk hx) (E.rd a ha)
  have hl : WideAt.IsKeyLit (.int q x) := trivial
  refine ⟨w', hr, ⟨_, h4, h2.put _ _, fun y => ?_⟩, h5⟩
  unfold mapPut
  by_cases hy : y = x
  · subst hy
    rw [if_pos rfl]
    exact ⟨fun e => by (cases e), fun c e => by injection e with e; subst e; exact ⟨Maps.has_put_same h2 hl _, fun z => Maps.atKey_put_same h2 hl _ z⟩⟩
  · have hne : (Lit.int q y) ≠ .int q x := fun e => hy (by injection e)
    rw [if_neg hy, Maps.has_put_other hne]
    exact ⟨(h3 y).1, fun c e => ⟨((h3 y).2 c e).1, fun z => by rw [Maps.atKey_put_other hne]; exact ((h3 y).2 c e).2 z⟩⟩
end
section
variable {α : Type} {P : Program} {k : TypeId} {q : IntKind} {E : Elem α} {w : World} {b n : Nat} {f : Int → Option α} {F : Fence} {nF : Nat} {ops : Array Oper} {rest : List Oper} {o : Oper} {a : Act} {Q : Exit → Act → World → Prop}
theorem wpList_map_ok (hw : Region.wanted o (yielded ops a.tmps) = true) (m x : Operand) (t e : TypeId) (hop : o.op = Op.lookup t m x true) (hk : P.underlying k = some (.int q)) (ht : P.underlying t = some (.map k e)) (hz : (zeroValue e).run P w = .ok (E.val E.zero) w)
    (hm : a.eval m = .map (some b)) (h : MapAt P k q E w b n f) (y : Int) (hx : a.eval x = .int q y) (hy : (Lit.int q y).wf = true)
    (hK : wpList P ops Q rest (a.put o.dst (.tuple #[E.val (mapAt E f y), .bool (f y).isSome])) w) : wpList P ops Q (o :: rest) a w := by
  refine wpList_step fun K' hK' => ?_
  rw [if_pos hw]
  unfold Oper.wp
  simp [execOp, hop, hm, hx, h.look_ok hk ht hz hy, Result.andThen]
  exact hK' _ _ hK
theorem wpList_map_get (hw : Region.wanted o (yielded ops a.tmps) = true) (m x : Operand) (t e : TypeId) (hop : o.op = Op.lookup t m x false) (hk : P.underlying k = some (.int q)) (ht : P.underlying t = some (.map k e)) (hz : (zeroValue e).run P w = .ok (E.val E.zero) w)
    (hm : a.eval m = .map (some b)) (h : MapAt P k q E w b n f) (y : Int) (hx : a.eval x = .int q y) (hy : (Lit.int q y).wf = true)
    (hK : wpList P ops Q rest (a.put o.dst (E.val (mapAt E f y))) w) : wpList P ops Q (o :: rest) a w := by
  refine wpList_step fun K' hK' => ?_
  rw [if_pos hw]
  unfold Oper.wp
  simp [execOp, hop, hm, hx, h.look hk ht hz hy, Result.andThen]
  exact hK' _ _ hK
theorem wpList_map_put (hg : o.guard = none) (m x v : Operand) (t e : TypeId) (hop : o.op = Op.mapUpdate t m x v) (hk : P.underlying k = some (.int q)) (ht : P.underlying t = some (.map k e))
    (hm : a.eval m = .map (some b)) (h : MapAt P k q E w b n f) (hn : n < maxLen) (y : Int) (hx : a.eval x = .int q y) (hy : (Lit.int q y).wf = true) (c : α) (hv : a.eval v = E.val c) (hc : E.ok c)
    (hK : ∀ w', MapAt P k q E w' b (n + 1) (mapPut f y c) → w.grownBy w' (some b) → wpList P ops Q rest (a.put o.dst undef) w') : wpList P ops Q (o :: rest) a w := by
  refine wpList_plain hg fun K' hK' => ?_
  obtain ⟨w', hrun, r1, r2⟩ := h.put hk ht hn hy hc
  unfold Oper.wp
  simp [execOp, hop, hm, hx, hv, hrun, Result.andThen]
  exact hK' _ _ (hK w' r1 r2)
theorem wpListIn_map_ok (hw : Region.wanted o (yielded ops a.tmps) = true) (m x : Operand) (t e : TypeId) (hop : o.op = Op.lookup t m x true) (hk : P.underlying k = some (.int q)) (ht : P.underlying t = some (.map k e)) (hz : (zeroValue e).run P w = .ok (E.val E.zero) w)
    (hm : a.eval m = .map (some b)) (h : MapAt P k q E w b n f) (y : Int) (hx : a.eval x = .int q y) (hy : (Lit.int q y).wf = true)
    (hK : wpListIn F nF P ops Q rest (a.put o.dst (.tuple #[E.val (mapAt E f y), .bool (f y).isSome])) w) : wpListIn F nF P ops Q (o :: rest) a w := by
  refine wpListIn_step fun K' hK' => ?_
  rw [if_pos hw]
  unfold Oper.wpIn
  refine ⟨by simp [Oper.about, hop], ?_⟩
  rw [Oper.semAt_plain F _ _ (by rw [hop]; intro c hc'; cases hc')]
  simp [execOp, hop, hm, hx, h.look_ok hk ht hz hy, Result.andThen]
  exact hK' _ _ hK
theorem wpListIn_map_put (hg : o.guard = none) (m x v : Operand) (t e : TypeId) (hop : o.op = Op.mapUpdate t m x v) (hk : P.underlying k = some (.int q)) (ht : P.underlying t = some (.map k e))
    (hm : a.eval m = .map (some b)) (h : MapAt P k q E w b n f) (hn : n < maxLen) (y : Int) (hx : a.eval x = .int q y) (hy : (Lit.int q y).wf = true) (c : α) (hv : a.eval v = E.val c) (hc : E.ok c)
    (hK : ∀ w', MapAt P k q E w' b (n + 1) (mapPut f y c) → w.grownBy w' (some b) → wpListIn F nF P ops Q rest (a.put o.dst undef) w') : wpListIn F nF P ops Q (o :: rest) a w := by
  refine wpListIn_plain hg fun K' hK' => ?_
  obtain ⟨w', hrun, r1, r2⟩ := h.put hk ht hn hy hc
  unfold Oper.wpIn
  refine ⟨by simp [Oper.about, hop], ?_⟩
  rw [Oper.semAt_plain F _ _ (by rw [hop]; intro c hc'; cases hc')]
  simp [execOp, hop, hm, hx, hv, hrun, Result.andThen]
  exact hK' _ _ (hK w' r1 r2)
end
end Go.Proofs.Ytdfapbfpmjbnhaa.M
