/- A sign that was repeated is repeated again as it was, keeps its lowest bits, and fits; no condition. -/
import Derived.Test.YtlclelgcdainfaaPAllx3
namespace Go.Proofs.Ytlclelgcdainfaa.Pure
open Go.RowKit Go.Proofs.Ytlclelgcdainfaa.PAll Go.Proofs.YtlclelgcdainfaaW.PrintWords Go.Proofs.YtlclelgcdainfaaW.PrintLast Go.Proofs.Ytlclelgcdainfaa.M
set_option linter.unusedVariables false
set_option linter.unusedSimpArgs false

theorem sign_low (x : Int) (n : Nat) (h1 : 1 ≤ n) (h2 : n ≤ 63) : signOf x n % 2 ^ n = x % 2 ^ n := by
  unfold signOf
  rw [if_neg (by omega), Int.toNat_natCast]
  have hq := ipos n
  have e5 : (18446744073709551616 : Int) % 2 ^ n = 0 := by
    rw [← pow_split n (by omega)]; exact Int.mul_emod_left _ _
  split
  · rw [Int.emod_emod_of_dvd _ (Int.dvd_refl _)]
  · have : x % 2 ^ n + (18446744073709551616 - 2 ^ n) = x % 2 ^ n - 2 ^ n + 18446744073709551616 := by omega
    rw [this, Int.add_emod, e5, Int.add_zero, Int.emod_emod_of_dvd _ (Int.dvd_refl _), Int.sub_emod_right, Int.emod_emod_of_dvd _ (Int.dvd_refl _)]
theorem sign_of_low (x y : Int) (n : Nat) (h1 : 1 ≤ n) (h2 : n ≤ 63) (h : x % 2 ^ n = y % 2 ^ n) : signOf x n = signOf y n := by
  have hn : ¬ ((n : Int) < 1 ∨ (n : Int) > 63) := by omega
  unfold signOf
  rw [if_neg hn, if_neg hn, Int.toNat_natCast, h]
theorem sign_sign (x : Int) (n : Nat) (h1 : 1 ≤ n) (h2 : n ≤ 63) : signOf (signOf x n) n = signOf x n := sign_of_low _ _ n h1 h2 (sign_low x n h1 h2)
theorem field_low (x : Int) (n : Nat) (h1 : 1 ≤ n) (h2 : n ≤ 63) : fieldOf x 0 n = x % 2 ^ n := by
  unfold fieldOf
  rw [if_neg (by omega), show (min (n : Int) 64).toNat = n from by omega]
  show x / 1 % 2 ^ n = _
  rw [Int.ediv_one]
theorem fits_more (v : Int) (n : Nat) (h1 : 1 ≤ n) (h2 : n ≤ 63) (h : fitsOf v n = true) : fitsOf v (n + 1) = true := by
  unfold fitsOf at *
  rw [decide_eq_true_iff] at *
  refine ⟨by omega, fun _ => ?_⟩
  have h := h.2 (by omega)
  rw [show ((n : Int) - 1).toNat = n - 1 from by omega] at h
  rw [show ((n : Int) + 1 - 1).toNat = n from by omega]
  have : (2 : Int) ^ (n - 1) ≤ 2 ^ n := ipow_le _ _ (by omega)
  omega
theorem BitsSigned : postbaglaw01_BitsSigned.Pure := by
  intro a0 a1 h0 h1
  have u0 := U64.of_wf h0
  have hk : ∃ n : Nat, 1 ≤ n ∧ n ≤ 63 ∧ wrap64 (1 + wrap64 (Int.tmod (IntKind.u64.wrap a1) 63)) = n := by
    have hu := U64.wrap a1
    generalize IntKind.u64.wrap a1 = x at *
    rw [Int.tmod_eq_emod_of_nonneg hu.1, I64.wrap_eq (show I64 (x % 63) by unfold I64; omega), I64.wrap_eq (show I64 (1 + x % 63) by unfold I64; omega)]
    exact ⟨(1 + x % 63).toNat, by omega, by omega, by omega⟩
  obtain ⟨n, n1, n2, hn⟩ := hk
  unfold postbaglaw01_BitsSigned.f postbaglaw01_lives.f
  rw [hn]
  have us := sign_range a0 n u0
  have hf : fitsOf (wrap64 (signOf a0 n)) n = true := by
    rw [← fits_sign _ (I64.wrap _) n n1 n2, wrap_wrap64, us.wrap_eq, sign_sign _ n n1 n2, beq_self_eq_true]
  rw [bits_Sign.eq u0]
  simp only [Option.bind_some]
  rw [bits_Sign.eq us]
  simp only [Option.bind_some]
  rw [if_pos (sign_sign _ n n1 n2), bits_Field.eq us, bits_Field.eq u0]
  simp only [Option.bind_some]
  rw [if_pos (by rw [field_low _ n n1 n2, field_low _ n n1 n2, sign_low _ n n1 n2]), bits_Fits.eq (I64.wrap _), bits_Fits.eq (I64.wrap _), bits_Fits.eq (I64.wrap _), I64.wrap_eq (show I64 ((n : Int) + 1) by unfold I64; omega)]
  simp only [Option.bind_some]
  rw [if_pos hf, if_pos ?_, if_pos (fits_more _ n n1 n2 hf)]
  rw [← fits_sign _ (I64.wrap _) n n1 n2, wrap_wrap64, u0.wrap_eq, beq_iff_eq]
  exact BEq.comm
end Go.Proofs.Ytlclelgcdainfaa.Pure
