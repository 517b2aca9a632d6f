/- DERIVED. How an argument that is a struct of whole numbers and bools reads; no program. -/
import Derived.ChangeArms
import Derived.ChangeOld
import Derived.ChangeShapes
import Derived.WideShapes
import Derived.Carry
namespace Go.Proofs.YtcjfafhbohkhlaaGreat.M
open Go
section
variable {H : Type} {enc : TypeId × Value → H} {P : Program} {w : World} {base : Nat} {spare : Nat → Bool} {held : Bool} {t : TypeId} {fuel : Nat}
theorem any_field {fs : Array Field} {cs : List Value} {x : DataW H × List MemPlace} (ht : P.underlying t = some (.struct fs)) (h : DataW.trod enc P w base spare held fuel t cs = some x) (j : Nat) (f : Field) (hf : fs[j]? = some f) :
    ∃ n y, DataW.trod enc P w base spare held n f.type ((cs.drop f.offset).take (P.cellsOf f.type)) = some y := by
  obtain ⟨xs, n, _, _, _, hlen, hget⟩ := DataW.trod_struct ht h
  have hj : j < fs.size := (Array.getElem?_eq_some_iff.1 hf).1
  refine ⟨n, xs[j]'(by omega), ?_⟩
  rw [hget j f hf]
  exact List.getElem?_eq_getElem _
theorem int_field {fs : Array Field} {cs : List Value} {x : DataW H × List MemPlace} (ht : P.underlying t = some (.struct fs)) (h : DataW.trod enc P w base spare held fuel t cs = some x) (j : Nat) (f : Field) (hf : fs[j]? = some f) {k : IntKind} (hk : P.underlying f.type = some (.int k)) {c : Value} (hc : (cs.drop f.offset).take (P.cellsOf f.type) = [c]) :
    ∃ z, c = .int k z ∧ (Lit.int k z).wf = true := by
  obtain ⟨n, y, hy⟩ := any_field ht h j f hf
  rw [hc] at hy
  obtain ⟨z, hz, _, wz⟩ := DataW.trod_int hk hy
  exact ⟨z, by simpa using hz, wz⟩
theorem bool_field {fs : Array Field} {cs : List Value} {x : DataW H × List MemPlace} (ht : P.underlying t = some (.struct fs)) (h : DataW.trod enc P w base spare held fuel t cs = some x) (j : Nat) (f : Field) (hf : fs[j]? = some f) (hk : P.underlying f.type = some .bool) {c : Value} (hc : (cs.drop f.offset).take (P.cellsOf f.type) = [c]) :
    ∃ z : Bool, c = .bool z := by
  obtain ⟨n, y, hy⟩ := any_field ht h j f hf
  rw [hc] at hy
  obtain ⟨z, hz, _⟩ := DataW.trod_bool hk hy
  exact ⟨z, by simpa using hz⟩
theorem slice_field {fs : Array Field} {cs : List Value} {x : DataW H × List MemPlace} (ht : P.underlying t = some (.struct fs)) (h : DataW.trod enc P w base spare held fuel t cs = some x) (j : Nat) (f : Field) (hf : fs[j]? = some f) {e : TypeId} (hk : P.underlying f.type = some (.slice e)) {c : Value} (hc : (cs.drop f.offset).take (P.cellsOf f.type) = [c]) :
    ∃ (A : Option Addr) (n m : Nat), c = .slice A n m ∧ n ≤ 9223372036854775807 := by
  obtain ⟨n, y, hy⟩ := any_field ht h j f hf
  rw [hc] at hy
  rcases DataW.trod_slice hk hy with ⟨h1, _⟩ | ⟨a, len, cap, _, _, _, _, h1, _, _, h2, h3, _⟩
  · exact ⟨none, 0, 0, by simpa using h1, by omega⟩
  · unfold maxLen at h3; exact ⟨some a, len, cap, by simpa using h1, by omega⟩
end
theorem array_of {α : Type} (cs : Array α) (l : List α) (h : cs.toList = l) : cs = l.toArray := by subst h; rfl
theorem list5 {α : Type} {l : List α} (h : l.length = 5) : ∃ a b c d e, l = [a, b, c, d, e] := by match l, h with | [a, b, c, d, e], _ => exact ⟨a, b, c, d, e, rfl⟩
theorem list6 {α : Type} {l : List α} (h : l.length = 6) : ∃ a b c d e f, l = [a, b, c, d, e, f] := by match l, h with | [a, b, c, d, e, f], _ => exact ⟨a, b, c, d, e, f, rfl⟩
theorem list7 {α : Type} {l : List α} (h : l.length = 7) : ∃ a b c d e f g, l = [a, b, c, d, e, f, g] := by match l, h with | [a, b, c, d, e, f, g], _ => exact ⟨a, b, c, d, e, f, g, rfl⟩
theorem list8 {α : Type} {l : List α} (h : l.length = 8) : ∃ a b c d e f g i, l = [a, b, c, d, e, f, g, i] := by match l, h with | [a, b, c, d, e, f, g, i], _ => exact ⟨a, b, c, d, e, f, g, i, rfl⟩
end Go.Proofs.YtcjfafhbohkhlaaGreat.M
