/- DERIVED. DERIVED. Parts of a list of operations; a list that a call appends to. -/
import Derived.Test.YtdfapbfpmjbnhaaProg
import Derived.Test.YtdfapbfpmjbnhaaMBits
import Derived.Test.YtdfapbfpmjbnhaaMWalk
import Derived.Test.YtdfapbfpmjbnhaaMArg
import Derived.Test.YtdfapbfpmjbnhaaMRow
import Derived.Test.YtdfapbfpmjbnhaaMOpen
import Derived.Test.YtdfapbfpmjbnhaaMPart
import Derived.Test.YtdfapbfpmjbnhaaMGoMap
import Derived.Test.YtdfapbfpmjbnhaaHJ
import Derived.Below
import Derived.Deep.Draws
import Derived.Deep.AppendLies
import Derived.Maps.AppendAt
import Derived.OwnWalk
import Derived.Laws.BytesArg
import Derived.Laws.MakeOwn
import Derived.Laws.OwnMore
import Derived.Deep.OwnRows
import Derived.Tactics
import Derived.Lib.ConvBytes
import Derived.Laws.Slices
import Derived.WalkKit
import Derived.KernelRfl
import Derived.RowKit3
import Derived.Deep.LoopGhost
import Derived.Deep.QuietTactic
import Derived.BigQuiet
import Derived.WideLaws
import Derived.Deep.DeepCutAuto
import Derived.Deep.CutBlock
import Derived.Deep.RegionHeld3
import Derived.Laws.Rows
import Derived.Lib.AppendStr
import Derived.ArgAppend
import Derived.Laws.IdiomCopy
import Derived.OrdersHeld
import Derived.Laws.BitsLemmas
import Derived.Laws.Bits64
import Derived.RowKit
import Derived.Outline
import Derived.Handy
import Derived.Lib.Hide
import Derived.Deep.Light
import Derived.Laws.CopyOwn
import Derived.Laws.AppendOwnNone
import Derived.RangeFuncNested
import Derived.RangeFuncBound
import Derived.RangeFuncCalls
import Derived.RangeFuncLeaves
import Derived.Shelf.Abstract
import Derived.Shelf.RegionOpen
import Derived.OwnWalkIn
import Derived.TacticsInMore
import Derived.LoopNIn
import Derived.LoopIn
import Derived.Maps.OwnIn
import Derived.Deep.WholeRow
namespace Go.Proofs.Ytdfapbfpmjbnhaa.Hand
open Go Go.RowKit Go.Proofs.Ytdfapbfpmjbnhaa.M
set_option linter.unusedVariables false
set_option linter.unusedSimpArgs false
theorem between_mid (h l t : List OpS) (p q : Nat) (h2 : q ≤ l.length) (h1 : p < q) : betweenOf (h ++ l ++ t) (h.length + p) (h.length + q) = betweenOf l p q := by
  unfold betweenOf
  rw [List.append_assoc, show h.length + p + 1 = h.length + (p + 1) by omega, List.drop_append, show h.length + q - (h.length + (p + 1)) = q - (p + 1) by omega, List.drop_of_length_le (by omega), List.nil_append, show h.length + (p + 1) - h.length = p + 1 by omega,
    List.drop_append_of_le_length (by omega), List.take_append_of_le_length (by simp; omega)]
/-- What lies ahead and behind does not matter. -/
theorem rulesOf_mid (h l t : List OpS) (p q : Nat) (h2 : q < l.length) : rulesOf (h ++ l ++ t) ((h.length : Int) + p) ((h.length : Int) + q) = rulesOf l p q := by
  by_cases h1 : p < q
  · have e1 := rulesOf_at l p q h1 h2 (by omega)
    have e2 := rulesOf_at (h ++ l ++ t) (h.length + p) (h.length + q) (by omega) (by simp; omega) (by simp; omega)
    rw [e1, show (h.length : Int) + p = ((h.length + p : Nat) : Int) by omega, show (h.length : Int) + q = ((h.length + q : Nat) : Int) by omega, e2]
    have g1 : (h ++ l ++ t)[h.length + p]'(by simp; omega) = l[p] := by
      rw [List.getElem_append_left (by simp; omega), List.getElem_append_right (by omega)]
      congr 1
      omega
    have g2 : (h ++ l ++ t)[h.length + q]'(by simp; omega) = l[q] := by
      rw [List.getElem_append_left (by simp; omega), List.getElem_append_right (by omega)]
      congr 1
      omega
    rw [g1, g2]
    unfold rulesAt
    rw [between_mid h l t p q (by omega) h1]
  · rw [rulesOf_not _ _ _ (by omega), rulesOf_not _ _ _ (by omega)]
/-- The part alone. -/
theorem rulesOf_part (l : List OpS) (p q : Nat) (h1 : p < q) (h2 : q < l.length) : rulesOf ((l.drop p).take (q + 1 - p)) 0 ((q : Int) - p) = rulesOf l p q := by
  have hl : l = (l.take p) ++ ((l.drop p).take (q + 1 - p)) ++ ((l.drop p).drop (q + 1 - p)) := by
    rw [List.append_assoc, List.take_append_drop, List.take_append_drop]
  have hp : (l.take p).length = p := by rw [List.length_take]; omega
  have hq : ((l.drop p).take (q + 1 - p)).length = q + 1 - p := by rw [List.length_take, List.length_drop]; omega
  have := rulesOf_mid (l.take p) ((l.drop p).take (q + 1 - p)) ((l.drop p).drop (q + 1 - p)) 0 (q - p) (by omega)
  rw [← hl, hp] at this
  rw [show (q : Int) - p = ((q - p : Nat) : Int) by omega, show (0 : Int) = ((0 : Nat) : Int) by rfl, ← this]
  congr 1 <;> omega
def flatOps (l : List OpS) : List Value := l.flatMap (fun o => o.cells.toList)
theorem flat_length (l : List OpS) : (flatOps l).length = l.length * 17 := by
  induction l with
  | nil => rfl
  | cons o l ih => rw [flatOps, List.flatMap_cons, List.length_append, OpS.len, List.length_cons, ← flatOps, ih]; omega
theorem flat_get (l : List OpS) (j : Nat) (u : Value) (h : (flatOps l)[j]? = some u) : ∃ k f o, j = k * 17 + f ∧ l[k]? = some o ∧ o.cells[f]? = some u := by
  induction l generalizing j with
  | nil => simp [flatOps] at h
  | cons o l ih =>
    rw [flatOps, List.flatMap_cons, ← flatOps] at h
    rcases Nat.lt_or_ge j 17 with hj | hj
    · rw [List.getElem?_append_left (by rw [OpS.len]; omega), Array.getElem?_toList] at h
      exact ⟨0, j, o, by omega, rfl, h⟩
    · rw [List.getElem?_append_right (by rw [OpS.len]; omega), OpS.len] at h
      obtain ⟨k, f, o', h1, h2, h3⟩ := ih _ h
      exact ⟨k + 1, f, o', by omega, by simpa using h2, h3⟩
theorem flat_at (l : List OpS) (k f : Nat) (o : OpS) (u : Value) (h1 : l[k]? = some o) (h2 : o.cells[f]? = some u) : (flatOps l)[k * 17 + f]? = some u := by
  induction l generalizing k with
  | nil => simp at h1
  | cons x l ih =>
    rw [flatOps, List.flatMap_cons, ← flatOps]
    match k, h1 with
    | 0, h1 =>
      simp at h1
      subst h1
      have hf := (Array.getElem?_eq_some_iff.1 h2).1
      rw [List.getElem?_append_left (by rw [Array.length_toList]; omega), Array.getElem?_toList, Nat.zero_mul, Nat.zero_add, h2]
    | k + 1, h1 =>
      rw [List.getElem?_append_right (by rw [OpS.len]; omega), OpS.len, show (k + 1) * 17 + f - 17 = k * 17 + f by omega]
      exact ih k (by simpa using h1)
theorem flat_one (l : List OpS) : ∀ u ∈ flatOps l, u.oneCell' = true := by
  intro u hu
  obtain ⟨o, ho, h⟩ := List.mem_flatMap.1 hu
  have := OpS.one o
  rw [Array.all_eq_true'] at this
  exact this u (by simpa using h)
theorem op_infos : ∃ (i : TypeInfo) (z : Value), Try.prog.info? 29 = some i ∧ i.zero = some z ∧ i.size = 17 ∧ z.cells.size = 17 ∧ i.bytes ≤ 1000 := ⟨_, _, rfl, rfl, rfl, rfl, by decide⟩
/-- A slice of the call's own, of operations. -/
def OwnOps (w : World) (base : Nat) (v : Value) (l : List OpS) : Prop := w.ownsRow base 29 17 v l.length (flatOps l)
theorem OwnOps.at_ {w : World} {base : Nat} {v : Value} {l : List OpS} (h : OwnOps w base v l) (hl : l.length ≤ 9223372036854775807) (ho : ∀ o ∈ l, o.At w) : ∃ s : OSl, v = s.v ∧ s.At w ∧ s.n ≤ s.c ∧ s.l = l := by
  rcases h.2 with ⟨e, h0⟩ | ⟨g, cap, cur, e, _, _, hc, _⟩
  · have : l = [] := List.eq_nil_of_length_eq_zero h0
    subst this
    exact ⟨⟨none, 0, 0, []⟩, e, ⟨fun h => absurd rfl h, rfl, by simp, fun o ho => by cases ho⟩, Nat.le_refl _, rfl⟩
  · subst e
    refine ⟨⟨some ⟨g, 0, none⟩, l.length, cap, l⟩, rfl, ⟨fun _ => ⟨_, rfl, (h.lt g rfl).2, fun k o hk f u hu => ?_⟩, rfl, hl, ho⟩, hc, rfl⟩
    rw [addr_add]
    exact h.cells (g := g) rfl _ _ (flat_at l k f o u hk hu)
theorem append_ops {ops : Array Oper} {rest : List Oper} {o : Oper} {a : Act} {w : World} {Q : Exit → Act → World → Prop} (hgd : o.guard = none) (s x : Operand)
    (ho : o.op = .call { callee := .builtin .append, args := #[s, x], argTypes := #[22, 22] }) (base : Nat) (v : Value) (l : List OpS) (hs : a.eval s = v) (hown : OwnOps w base v l)
    (r : OSl) (hx : a.eval x = r.v) (hr : r.At w) (hz : r.a = none → r.n = 0 ∧ r.c = 0) (hn : l.length + r.n ≤ 1000) (hbase : base ≤ w.heap.size)
    (h : ∀ v' w', OwnOps w' base v' (l ++ r.l) → w.grownBy w' v.ownBlock → wpList Try.prog ops Q rest (a.put o.dst v') w') : wpList Try.prog ops Q (o :: rest) a w := by
  obtain ⟨i, z, hi, h1, h2, h3, h4⟩ := op_infos
  have hrn := hr.n
  have happ : (flatOps l) ++ (flatOps r.l) = flatOps (l ++ r.l) := by simp [flatOps]
  by_cases hA : r.a = none
  · obtain ⟨e1, e2⟩ := hz hA
    have e3 : r.l = [] := List.eq_nil_of_length_eq_zero (by omega)
    refine wpList_append_own_none hgd s x 22 ho base 29 i 17 Try.underlying22 hi v l.length (flatOps l) hs hown (by rw [hx]; unfold OSl.v; rw [hA, e1, e2]) (h v w (by rw [e3, List.append_nil]; exact hown) ⟨rfl, rfl, rfl, Nat.le_refl _, fun _ _ _ => rfl⟩)
  · obtain ⟨ad, hA⟩ := Option.ne_none_iff_exists'.1 hA
    refine wpList_append_own w hgd s x 22 ho base 29 i z 17 i.bytes Try.underlying22 hi h1 h2 rfl h3 (by decide) v l.length (flatOps l) hs hown ad r.n r.c (flatOps r.l) (by rw [hx]; unfold OSl.v; rw [hA]) (by rw [flat_length, hrn]) (fun j u hu => ?_) (flat_one _) (by unfold maxLen; omega) ?_ hbase (fun v' w' k1 k2 _ => h v' w' ?_ k2)
    · obtain ⟨k, f, o', e1, e2, e3⟩ := flat_get _ _ _ hu
      obtain ⟨ad', e', _, h6⟩ := hr.r (fun e => by rw [e] at e2; simp at e2)
      have : ad' = ad := by rw [hA] at e'; injection e' with e'; exact e'.symm
      subst this
      have := h6 k o' e2 f u e3
      rw [addr_add] at this
      rw [e1]; exact this
    · calc (l.length + r.n) * i.bytes ≤ 1000 * 1000 := Nat.mul_le_mul hn h4
        _ ≤ 140737488355328 := by decide
    · unfold OwnOps
      rw [List.length_append, hrn, ← happ]
      exact k1
end Go.Proofs.Ytdfapbfpmjbnhaa.Hand
