/- DERIVED. How arguments that are slices of structs, and structs with arrays within, read; no program. -/
import Derived.Test.YtcjfafhbohkhlaaGreatMRow
import Derived.Test.YtcjfafhbohkhlaaGreatMArg
import Derived.OpenShut
namespace Go.Proofs.YtcjfafhbohkhlaaGreat.M
open Go Go.RowKit Go.ChangeShapes Go.WideShapes
set_option linter.unusedVariables false
theorem choose_list {α : Type} {Q : Nat → α → Prop} : ∀ n : Nat, (∀ i, i < n → ∃ s, Q i s) → ∃ l : List α, l.length = n ∧ ∀ i s, l[i]? = some s → Q i s
  | 0, _ => ⟨[], rfl, fun i s h => by simp at h⟩
  | n + 1, h => by
    obtain ⟨l, hl, hq⟩ := choose_list n (fun i hi => h i (by omega))
    obtain ⟨s, hs⟩ := h n (by omega)
    refine ⟨l ++ [s], by simp [hl], fun i t ht => ?_⟩
    rcases Nat.lt_or_ge i n with hi | hi
    · rw [List.getElem?_append_left (by omega)] at ht; exact hq i t ht
    · have h2 := (List.getElem?_eq_some_iff.1 ht).1
      simp at h2
      obtain rfl : i = n := by omega
      rw [List.getElem?_append_right (by omega), hl] at ht
      simp at ht; subst ht; exact hs
theorem addr_add (a : Addr) (m n : Nat) : (a.add m).add n = a.add (m + n) := by
  unfold Addr.add
  by_cases h : n = 0
  · simp [h]
  · by_cases g : m = 0
    · simp [h, g]
    · simp [h, g, Nat.add_assoc]
section
variable {H : Type} {enc : TypeId × Value → H} {P : Program} {W : World} {base : Nat} {spare : Nat → Bool} {held : Bool} {t e : TypeId} {fuel : Nat}
theorem cells_get {a : Addr} {n : Nat} {cs : List Value} (h : W.cells? base a n = some cs) : cs.length = n ∧ ∀ f v, cs[f]? = some v → W.cell? (a.add f) = some v := by
  unfold World.cells? at h
  split at h
  · have hl := mapM_some_length h
    simp at hl
    refine ⟨hl, fun f v hv => ?_⟩
    have hf : f < n := by have := (List.getElem?_eq_some_iff.1 hv).1; omega
    rw [← hv]; exact mapM_some_get h f f (by simp [hf])
  · cases h
/-- The cells of a slice's elements, each of which reads. -/
theorem slice_cells {v : Value} {x : DataW H × List MemPlace} (ht : P.underlying t = some (.slice e)) (h : DataW.trod enc P W base spare held fuel t [v] = some x) :
    v = .slice none 0 0 ∨ ∃ (a : Addr) (len cap m : Nat), v = .slice (some a) len cap ∧ len ≤ cap ∧ cap ≤ maxLen ∧
      ∀ i, i < len → ∃ cs y, cs.length = P.cellsOf e ∧ (∀ f v, cs[f]? = some v → W.cell? (a.add (i * P.cellsOf e + f)) = some v) ∧ DataW.trod enc P W base spare held m e cs = some y := by
  rcases DataW.trod_slice ht h with ⟨h1, _⟩ | ⟨a, len, cap, elems, rest, m, _, h1, _, _, h2, h3, hl, he, _⟩
  · exact .inl (by simpa using h1)
  · refine .inr ⟨a, len, cap, m, by simpa using h1, h2, h3, fun i hi => ?_⟩
    have hi' := he i hi
    rw [List.getElem?_eq_getElem (by omega), Option.bind_eq_some_iff] at hi'
    obtain ⟨cs, hc, hy⟩ := hi'
    obtain ⟨c1, c2⟩ := cells_get hc
    exact ⟨cs, _, c1, fun f v hv => by rw [← addr_add]; exact c2 f v hv, hy⟩
theorem ints_array {n : Nat} {k : IntKind} {cs : List Value} {x : DataW H × List MemPlace} (ht : P.underlying t = some (.array n e)) (he : P.underlying e = some (.int k)) (hc : P.cellsOf e = 1) (hn : cs.length = n)
    (h : DataW.trod enc P W base spare held fuel t cs = some x) : ∃ zs : List Int, zs.length = n ∧ cs = zs.map (.int k) ∧ ∀ z ∈ zs, (Lit.int k z).wf = true := by
  obtain ⟨xs, m, _, _, _, hl, hg⟩ := DataW.trod_array ht h
  have key : ∀ i, i < n → ∃ z : Int, cs[i]? = some (.int k z) ∧ (Lit.int k z).wf = true := by
    intro i hi
    have h1 := hg i hi
    rw [List.getElem?_eq_getElem (show i < xs.length by omega), hc, Nat.mul_one] at h1
    have e1 : (cs.drop i).take 1 = [cs[i]'(by omega)] := by rw [List.drop_eq_getElem_cons (by omega)]; rfl
    rw [e1] at h1
    obtain ⟨z, hz, _, wz⟩ := DataW.trod_int he h1
    exact ⟨z, by rw [List.getElem?_eq_getElem (by omega)]; simpa using hz, wz⟩
  obtain ⟨zs, hl2, hz⟩ := choose_list (Q := fun i z => cs[i]? = some (.int k z) ∧ (Lit.int k z).wf = true) n key
  refine ⟨zs, hl2, List.ext_getElem? fun i => ?_, fun z hm => ?_⟩
  · rcases Nat.lt_or_ge i n with hi | hi
    · rw [List.getElem?_map, List.getElem?_eq_getElem (show i < zs.length by omega)]
      exact (hz i _ (List.getElem?_eq_getElem (by omega))).1
    · rw [List.getElem?_eq_none (by omega), List.getElem?_eq_none (by simp; omega)]
  · obtain ⟨i, hi, e⟩ := List.mem_iff_getElem.1 hm
    exact (hz i z (by rw [List.getElem?_eq_getElem hi, e])).2
theorem drop_take_one {α : Type} {l : List α} {i : Nat} (h : i < l.length) : (l.drop i).take 1 = [l[i]] := by rw [List.drop_eq_getElem_cons h]; rfl
end
end Go.Proofs.YtcjfafhbohkhlaaGreat.M
