/- A number is its quotient times the other one, and the remainder, which is less than the other one and has the number's sign; no condition. -/
import Derived.Test.YtlclelgcdainfaaPAllx6
namespace Go.Proofs.Ytlclelgcdainfaa.Pure
open Go.RowKit Go.Proofs.Ytlclelgcdainfaa.PAll Go.Proofs.YtlclelgcdainfaaW.PrintWords Go.Proofs.YtlclelgcdainfaaW.PrintLast Go.Proofs.Ytlclelgcdainfaa.M
set_option linter.unusedVariables false
set_option linter.unusedSimpArgs false

theorem whole (a b : Int) (s : Bool) (ha : U64 a) (hb : U64 b) : IntKind.u64.wrap (IntKind.u64.wrap (quoOf a b s * b) + remOf a b s) = a := by
  by_cases h0 : b = 0
  · subst h0; unfold remOf; rw [if_pos rfl, Int.mul_zero]; unfold U64 at ha; simp only [u64w]; omega
  · rw [← rem_quo a b s ha hb h0]; unfold U64 at ha; simp only [u64w]; omega
theorem rem_signed (a b : Int) (ha : U64 a) (hb : U64 b) (h0 : b ≠ 0) (h1 : b ≠ 18446744073709551615) :
    (wrap64 (remOf a b true) ≥ 0 ∨ wrap64 a < 0) ∧ (wrap64 (remOf a b true) ≤ 0 ∨ wrap64 a ≥ 0) ∧
    (wrap64 b > 0 ∧ wrap64 (remOf a b true) < wrap64 b ∧ wrap64 (-(wrap64 (remOf a b true))) < wrap64 b ∨ wrap64 b < 0 ∧ wrap64 (remOf a b true) > wrap64 b ∧ wrap64 (-(wrap64 (remOf a b true))) > wrap64 b) := by
  unfold remOf
  rw [if_neg h0, if_pos rfl]
  have wa := I64.wrap a
  have wb := I64.wrap b
  have b0 : wrap64 b ≠ 0 := by unfold U64 at hb; unfold wrap64; omega
  have b1 : wrap64 b ≠ -1 := by unfold U64 at hb; unfold wrap64; omega
  generalize wrap64 a = x at *
  generalize wrap64 b = y at *
  unfold I64 at wa wb
  have q1 : 0 ≤ x → 0 ≤ Int.tmod x y := fun h => Int.tmod_nonneg y h
  have q2 : x ≤ 0 → Int.tmod x y ≤ 0 := fun h => by
    have := Int.tmod_nonneg y (show 0 ≤ -x by omega); rw [Int.neg_tmod] at this; omega
  have q3 : 0 < y → -y < Int.tmod x y ∧ Int.tmod x y < y := fun h => ⟨by
    by_cases hx : 0 ≤ x
    · have := q1 hx; omega
    · have := Int.tmod_lt_of_pos (-x) h; rw [Int.neg_tmod] at this; omega, Int.tmod_lt_of_pos x h⟩
  have q4 : y < 0 → y < Int.tmod x y ∧ Int.tmod x y < -y := fun h => by
    have e : Int.tmod x y = Int.tmod x (-y) := (Int.tmod_neg x y).symm
    have hy : 0 < -y := by omega
    refine ⟨?_, by rw [e]; exact Int.tmod_lt_of_pos x hy⟩
    by_cases hx : 0 ≤ x
    · have := q1 hx; omega
    · have := Int.tmod_lt_of_pos (-x) hy; rw [Int.neg_tmod, ← e] at this; omega
  generalize Int.tmod x y = r at *
  have e : wrap64 (IntKind.u64.wrap r) = r := by
    rw [u64w]; unfold wrap64
    by_cases h : 0 < y
    · have := q3 h; omega
    · have := q4 (by omega); omega
  rw [e]
  have e2 : wrap64 (-r) = -r := by
    unfold wrap64
    by_cases h : 0 < y
    · have := q3 h; omega
    · have := q4 (by omega); omega
  rw [e2]
  refine ⟨by omega, by omega, ?_⟩
  by_cases h : 0 < y
  · have := q3 h; omega
  · have := q4 (by omega); omega
theorem BitsWhole : postbaglaw01_BitsWhole.Pure := by
  intro a0 a1 a2 h0 h1
  refine ⟨1, ?_⟩
  have u0 := U64.of_wf h0
  have u1 := U64.of_wf h1
  unfold postbaglaw01_BitsWhole.f
  rw [bits_Quo.eq u0 u1, bits_Rem.eq u0 u1]
  simp only [Option.bind_some]
  rw [if_pos (whole _ _ _ u0 u1)]
  have jt : ∀ r : Int, postbaglaw01_BitsWhole.j0 1 a0 a1 a2 r true = some true := fun r => by rw [postbaglaw01_BitsWhole.j0, if_pos rfl]; rfl
  by_cases c0 : a1 = 0
  · rw [if_pos c0]; exact jt _
  · rw [if_neg c0]
    cases a2
    · rw [if_neg (by decide)]
      rw [postbaglaw01_BitsWhole.j0, if_neg (by decide), if_neg (by decide)]
      have hlt : remOf a0 a1 false < a1 := by
        unfold remOf; rw [if_neg c0, if_neg (by decide)]; unfold U64 at u1; exact Int.emod_lt_of_pos _ (by omega)
      rw [if_pos hlt]; rfl
    · rw [if_pos rfl]
      by_cases c1 : a1 = 18446744073709551615
      · rw [beq_iff_eq.2 c1]; exact jt _
      · rw [beq_eq_false_iff_ne.2 c1]
        have h := rem_signed a0 a1 u0 u1 c0 c1
        rw [postbaglaw01_BitsWhole.j0, if_neg (by decide), if_pos rfl]
        generalize wrap64 (-(wrap64 (remOf a0 a1 true))) = r2 at *
        generalize wrap64 (remOf a0 a1 true) = r at *
        generalize wrap64 a1 = y at *
        generalize wrap64 a0 = x at *
        clear jt
        obtain ⟨g1, g2, g3⟩ := h
        rcases g3 with ⟨p1, p2, p3⟩ | ⟨p1, p2, p3⟩
        · simp only [if_pos p1, if_pos p2, if_pos p3]
          clear p1 p2 p3
          repeat' split
          all_goals first | rfl | (exfalso; omega)
        · simp only [if_neg (show ¬ y > 0 by omega), if_pos p1, if_pos p2, if_pos p3]
          clear p1 p2 p3
          repeat' split
          all_goals first | rfl | (exfalso; omega)
end Go.Proofs.Ytlclelgcdainfaa.Pure
