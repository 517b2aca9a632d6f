/- What is put is told, no other bit changes, and what is put again is the same; no condition. -/
import Derived.Test.YtlclelgcdainfaaPAllx4
namespace Go.Proofs.Ytlclelgcdainfaa.Pure
open Go.RowKit Go.Proofs.Ytlclelgcdainfaa.PAll Go.Proofs.YtlclelgcdainfaaW.PrintWords Go.Proofs.YtlclelgcdainfaaW.PrintLast Go.Proofs.Ytlclelgcdainfaa.M
set_option linter.unusedVariables false
set_option linter.unusedSimpArgs false

theorem field_bit (x i : Nat) (hi : i < 64) : fieldOf (x : Int) (i : Int) 1 = ((x.testBit i).toNat : Int) := by
  have h := field_nat x i 1 (by omega) (by omega)
  rw [show ((1 : Nat) : Int) = 1 from rfl] at h
  rw [h, Nat.testBit_eq_decide_div_mod_eq]
  rcases Nat.mod_two_eq_zero_or_one (x / 2 ^ i) with h | h <;> simp [h]
theorem testBit_field (x low n i : Nat) : (x / 2 ^ low % 2 ^ n).testBit i = (decide (i < n) && x.testBit (low + i)) := by
  rw [Nat.testBit_mod_two_pow, Nat.testBit_div_two_pow, Nat.add_comm]
theorem small_index (x : Int) : ∃ n : Nat, n < 64 ∧ wrap64 (Int.tmod (IntKind.u64.wrap x) 64) = n := by
  have hu := U64.wrap x
  generalize IntKind.u64.wrap x = y at *
  rw [Int.tmod_eq_emod_of_nonneg hu.1, I64.wrap_eq (show I64 (y % 64) by unfold I64; omega)]
  exact ⟨(y % 64).toNat, by omega, by omega⟩
theorem BitsParts : postbaglaw01_BitsParts.Pure := by
  intro a0 a1 a2 a3 a4 h0 h1 h2 h3 h4
  refine ⟨1, ?_⟩
  have u0 := U64.of_wf h0
  have u3 := U64.of_wf h3
  obtain ⟨L, hL, eL⟩ := small_index a1
  obtain ⟨M0, hM0, eM⟩ := small_index a2
  obtain ⟨K, hK, eK⟩ := small_index a4
  unfold postbaglaw01_BitsParts.f
  rw [eL, eM, eK]
  have e1 : wrap64 (1 + (M0 : Int)) = ((M0 + 1 : Nat) : Int) := by rw [I64.wrap_eq (by unfold I64; omega)]; omega
  rw [e1]
  obtain ⟨M, hM1, hM2, hM⟩ : ∃ M : Nat, 1 ≤ M ∧ M ≤ 64 ∧ M0 + 1 = M := ⟨M0 + 1, by omega, by omega, rfl⟩
  rw [hM]
  obtain ⟨X, rfl, hX⟩ := u0.nat
  obtain ⟨V, rfl, hV⟩ := u3.nat
  rw [bits_Place.eq u0 u3]
  simp only [Option.bind_some]
  rw [place_nat X L M V (by omega) hM1]
  have hY := place_lt X L (min M (64 - L)) V hX (by omega)
  have uY := U64.mk hY
  have tail : postbaglaw01_BitsParts.j0 1 X V L M ((place X L (min M (64 - L)) V : Nat) : Int) false = some true := by
    simp only [postbaglaw01_BitsParts.j0]
    rw [if_neg (by decide), bits_Field.eq uY, bits_Field.eq u3]
    simp only [Option.bind_some]
    have em : mn (M : Int) (wrap64 (64 - (L : Int))) = ((min M (64 - L) : Nat) : Int) := by
      rw [I64.wrap_eq (show I64 (64 - (L : Int)) by unfold I64; omega)]; unfold mn; omega
    rw [em, field_nat _ L M (by omega) hM1, show (0 : Int) = ((0 : Nat) : Int) from rfl, field_nat V 0 (min M (64 - L)) (by omega) (by omega)]
    rw [if_pos ?g1, bits_Place.eq uY u3]
    case g1 =>
      congr 1
      apply Nat.eq_of_testBit_eq; intro i
      rw [testBit_field, testBit_field, testBit_place]
      by_cases hi : i < min M (64 - L)
      · rw [if_pos (by omega), decide_eq_true (show i < min M 64 by omega), decide_eq_true (show i < min (min M (64 - L)) 64 by omega), Nat.add_sub_cancel_left, Nat.zero_add]
      · rw [if_neg (by omega), decide_eq_false (show ¬ i < min (min M (64 - L)) 64 by omega)]
        by_cases hi2 : i < min M 64
        · rw [bits_of_lt hX (by omega), Bool.and_false, Bool.false_and]
        · rw [decide_eq_false hi2, Bool.false_and, Bool.false_and]
    simp only [Option.bind_some]
    rw [place_nat _ L M V (by omega) hM1, if_pos ?g2, bits_Field.eq u0]
    case g2 =>
      congr 1
      apply Nat.eq_of_testBit_eq; intro i
      rw [testBit_place, testBit_place]; split <;> rfl
    simp only [Option.bind_some]
    rw [bits_Place.eq u0 (field_range _ _ _ u0), field_nat X L M (by omega) hM1]
    simp only [Option.bind_some]
    rw [place_nat X L M _ (by omega) hM1, if_pos ?g3]
    case g3 =>
      congr 1
      apply Nat.eq_of_testBit_eq; intro i
      rw [testBit_place, testBit_field]
      split
      · rw [show L + (i - L) = i from by omega]; simp; omega
      · rfl
    rfl
  have same : ∀ c : Prop, c → (¬ (L ≤ K ∧ K < L + min M (64 - L))) → (bits_Field.f ((place X L (min M (64 - L)) V : Nat) : Int) K 1).bind (fun t157 => (bits_Field.f (X : Int) K 1).bind fun t158 => postbaglaw01_BitsParts.j0 1 X V L M ((place X L (min M (64 - L)) V : Nat) : Int) (t157 != t158)) = some true := by
    intro c _ hn
    rw [bits_Field.eq uY, bits_Field.eq u0]
    simp only [Option.bind_some]
    rw [field_bit _ K hK, field_bit _ K hK, testBit_place, if_neg hn, bne_self_eq_false]
    exact tail
  by_cases c1 : (K : Int) < L
  · rw [if_pos c1]; exact same _ c1 (by omega)
  · rw [if_neg c1, I64.wrap_eq (show I64 ((K : Int) - L) by unfold I64; omega)]
    by_cases c2 : (K : Int) - L ≥ M
    · rw [if_pos c2]; exact same _ c2 (by omega)
    · rw [if_neg c2]; exact tail
end Go.Proofs.Ytlclelgcdainfaa.Pure
