/- DERIVED. The contracts of the Go functions that one law reaches: each call returns what the plain function beside it says, under that theorem's own premises. Written by a program (hp.py) over the kit's printed words. -/
import Derived.Test.YtlclelgcdainfaaPAllx0
namespace Go.Proofs.Ytlclelgcdainfaa.PAll
open Go.RowKit Go.Proofs.YtlclelgcdainfaaW.PrintWords Go.Proofs.YtlclelgcdainfaaW.PrintLast Go.Proofs.YtlclelgcdainfaaW.PrintMore Go.Proofs.Ytlclelgcdainfaa.M
attribute [local go_sem] max2_int min2_int max_two min_two max_three min_three max_four min_four   -- for this text's walks alone
set_option linter.unusedVariables false
set_option linter.unusedSimpArgs false

/-! ### bits_High: function 11 -/
def bits_High.f (a0 : Int) (a1 : Int) (a2 : Bool) (a3 : Bool) : Option (Int) := if U64 a0 ∧ U64 a1 then some (hiOf a0 a1 a2 a3) else none
theorem and_low (a : Int) (h0 : 0 ≤ a) (h1 : a ≤ 18446744073709551615) : Go.bits .and .u64 a 4294967295 = a % 4294967296 := by
  have h := bits_mask .u64 64 (by decide) (fun n h0 h1 => by rw [IntKind.wrap_u64]; omega) 32 (by decide) a h0 (by omega)
  simpa using h
theorem hi_parts (a b : Int) (ha0 : 0 ≤ a) (ha : a ≤ 18446744073709551615) (hb0 : 0 ≤ b) (hb : b ≤ 18446744073709551615) :
    IntKind.u64.wrap (IntKind.u64.wrap (IntKind.u64.wrap (IntKind.u64.wrap (a / 4294967296 * (b / 4294967296)) + IntKind.u64.wrap (Go.bits .and .u64 a 4294967295 * (b / 4294967296)) / 4294967296) + IntKind.u64.wrap (a / 4294967296 * Go.bits .and .u64 b 4294967295) / 4294967296) +
      IntKind.u64.wrap (IntKind.u64.wrap (IntKind.u64.wrap (Go.bits .and .u64 a 4294967295 * Go.bits .and .u64 b 4294967295) / 4294967296 + Go.bits .and .u64 (IntKind.u64.wrap (Go.bits .and .u64 a 4294967295 * (b / 4294967296))) 4294967295) + Go.bits .and .u64 (IntKind.u64.wrap (a / 4294967296 * Go.bits .and .u64 b 4294967295)) 4294967295) / 4294967296) = a * b / 18446744073709551616 := by
  rw [and_low a ha0 ha, and_low b hb0 hb]
  obtain ⟨ah, al, rfl, h1, h2, h3, h4⟩ : ∃ ah al : Int, a = ah * 4294967296 + al ∧ 0 ≤ ah ∧ ah ≤ 4294967295 ∧ 0 ≤ al ∧ al ≤ 4294967295 := ⟨a / 4294967296, a % 4294967296, by omega, by omega, by omega, by omega, by omega⟩
  obtain ⟨bh, bl, rfl, h5, h6, h7, h8⟩ : ∃ bh bl : Int, b = bh * 4294967296 + bl ∧ 0 ≤ bh ∧ bh ≤ 4294967295 ∧ 0 ≤ bl ∧ bl ≤ 4294967295 := ⟨b / 4294967296, b % 4294967296, by omega, by omega, by omega, by omega, by omega⟩
  have e1 : (ah * 4294967296 + al) / 4294967296 = ah := by omega
  have e2 : (ah * 4294967296 + al) % 4294967296 = al := by omega
  have e3 : (bh * 4294967296 + bl) / 4294967296 = bh := by omega
  have e4 : (bh * 4294967296 + bl) % 4294967296 = bl := by omega
  rw [e1, e2, e3, e4]
  clear e1 e2 e3 e4
  have bd : ∀ x y : Int, 0 ≤ x → x ≤ 4294967295 → 0 ≤ y → y ≤ 4294967295 → 0 ≤ x * y ∧ x * y ≤ 18446744065119617025 := fun x y p q r s => ⟨Int.mul_nonneg p r, by have := Int.mul_le_mul q s r (by decide : (0 : Int) ≤ 4294967295); omega⟩
  have q0 := bd al bl h3 h4 h7 h8
  have q1 := bd al bh h3 h4 h5 h6
  have q2 := bd ah bl h1 h2 h7 h8
  have q3 := bd ah bh h1 h2 h5 h6
  have e : (ah * 4294967296 + al) * (bh * 4294967296 + bl) = ah * bh * 18446744073709551616 + (al * bh + ah * bl) * 4294967296 + al * bl := by
    have x1 : ah * 4294967296 * (bh * 4294967296) = ah * bh * 18446744073709551616 := by rw [← Int.mul_assoc, Int.mul_right_comm ah, Int.mul_assoc (ah * bh)]; rfl
    have x2 : ah * 4294967296 * bl = ah * bl * 4294967296 := by rw [Int.mul_right_comm]
    have x3 : al * (bh * 4294967296) = al * bh * 4294967296 := by rw [Int.mul_assoc]
    rw [Int.add_mul, Int.mul_add, Int.mul_add, x1, x2, x3]; omega
  rw [e]
  generalize al * bl = p0 at *
  generalize al * bh = p1 at *
  generalize ah * bl = p2 at *
  generalize ah * bh = p3 at *
  clear bd e h1 h2 h3 h4 h5 h6 h7 h8
  rw [and_low _ (by rw [IntKind.wrap_u64]; omega) (by rw [IntKind.wrap_u64]; omega), and_low _ (by rw [IntKind.wrap_u64]; omega) (by rw [IntKind.wrap_u64]; omega)]
  simp only [IntKind.wrap_u64]
  omega
set_option maxHeartbeats 1600000 in
theorem bits_High.calls (a0 : Int) (a1 : Int) (a2 : Bool) (a3 : Bool) (r : Int) (w : World) (h : bits_High.f a0 a1 a2 a3 = some r) :
    Calls Try.prog 11 #[.int .u64 a0, .int .u64 a1, .bool a2, .bool a3] w fun e w' => e = .returned (.int .u64 r) ∧ Below w.heap.size w w' := by
  unfold bits_High.f at h
  by_cases hc : U64 a0 ∧ U64 a1
  · rw [if_pos hc] at h
    obtain rfl := Option.some.inj h
    clear h
    have HP := Lib.hid (hi_parts a0 a1 hc.1.1 hc.1.2 hc.2.1 hc.2.2)
    have HQ := Lib.hid (hi_range a0 a1 hc.1 hc.2)
    clear hc
    unfold U64 at HQ
    cases a2 <;> cases a3
    all_goals
      go_enter Try.func11, Try.ntmps11
      go_wp2
      go_rounds 3
      all_goals go_ret
      all_goals refine ⟨congrArg (fun x => Ending.returned (.int .u64 x)) ?_, (Below.refl _ _).alloc (Nat.le_refl _) _⟩
      all_goals go_light
      all_goals rw [HP.out]
      all_goals have hq := HQ.out
      all_goals clear HP HQ
      all_goals unfold hiOf
      all_goals generalize a0 * a1 / 18446744073709551616 = q at hq ⊢
      all_goals simp only [IntKind.wrap_u64, beq_iff_eq, beq_eq_false_iff_ne, ne_eq] at *
      all_goals simp [*]
      all_goals omega
  · rw [if_neg hc] at h
    exact absurd h (by simp)


/-! ### postbagref01_Bit0: function 27 -/
mutual
def postbagref01_Bit0.j0 : Nat → Int → Int → Bool → Option (Int)
  | 0, _, _, _ => none
  | k + 1, x0, x1, x11 => if x11 = true then (some 0) else (postbagref01_Bit0.l0 k x0 x1 0)
def postbagref01_Bit0.l0 : Nat → Int → Int → Int → Option (Int)
  | 0, _, _, _ => none
  | k + 1, x0, x1, x5 => if x5 < x1 then (postbagref01_Bit0.l0 k (IntKind.u64.wrap (Int.tdiv x0 2)) x1 (wrap64 (x5 + 1))) else (some (Int.tmod x0 2))
end
def postbagref01_Bit0.f (k : Nat) (a0 : Int) (a1 : Int) : Option (Int) := if a1 < 0 then (postbagref01_Bit0.j0 k a0 a1 true) else (postbagref01_Bit0.j0 k a0 a1 (decide (a1 > 63)))
theorem postbagref01_Bit0.mono_l : ∀ k, (∀ y0 y1 y2, LeO (postbagref01_Bit0.j0 k y0 y1 y2) (postbagref01_Bit0.j0 (k + 1) y0 y1 y2)) ∧ (∀ y0 y1 y2, LeO (postbagref01_Bit0.l0 k y0 y1 y2) (postbagref01_Bit0.l0 (k + 1) y0 y1 y2))
  | 0 => ⟨fun _ _ _ r h => by simp [postbagref01_Bit0.j0] at h, fun _ _ _ r h => by simp [postbagref01_Bit0.l0] at h⟩
  | k + 1 => by
    obtain ⟨ih0, ih1⟩ := postbagref01_Bit0.mono_l k
    refine ⟨?_, ?_⟩
    · intro y0 y1 y2
      unfold postbagref01_Bit0.j0
      repeat' first
      | (with_reducible exact ih0 _ _ _)
      | (with_reducible exact ih1 _ _ _)
      | (with_reducible exact LeO.refl _)
      | (with_reducible exact LeO.none _)
      | (with_reducible refine LeO.ite ?_ ?_)
      | (with_reducible refine LeO.bind ?_ (fun _ => ?_))
      | exact ih0 _ _ _
      | exact ih1 _ _ _
      | exact LeO.none _
      | refine LeO.ite ?_ ?_
      | refine LeO.bind ?_ (fun _ => ?_)
    · intro y0 y1 y2
      unfold postbagref01_Bit0.l0
      repeat' first
      | (with_reducible exact ih0 _ _ _)
      | (with_reducible exact ih1 _ _ _)
      | (with_reducible exact LeO.refl _)
      | (with_reducible exact LeO.none _)
      | (with_reducible refine LeO.ite ?_ ?_)
      | (with_reducible refine LeO.bind ?_ (fun _ => ?_))
      | exact ih0 _ _ _
      | exact ih1 _ _ _
      | exact LeO.none _
      | refine LeO.ite ?_ ?_
      | refine LeO.bind ?_ (fun _ => ?_)
theorem postbagref01_Bit0.mono : ∀ a0 a1 k, LeO (postbagref01_Bit0.f k a0 a1) (postbagref01_Bit0.f (k + 1) a0 a1) := by
  intro a0 a1 k
  obtain ⟨ih0, ih1⟩ := postbagref01_Bit0.mono_l k
  unfold postbagref01_Bit0.f
  repeat' first
      | (with_reducible exact ih0 _ _ _)
      | (with_reducible exact ih1 _ _ _)
      | (with_reducible exact LeO.refl _)
      | (with_reducible exact LeO.none _)
      | (with_reducible refine LeO.ite ?_ ?_)
      | (with_reducible refine LeO.bind ?_ (fun _ => ?_))
      | exact ih0 _ _ _
      | exact ih1 _ _ _
      | exact LeO.none _
      | refine LeO.ite ?_ ?_
      | refine LeO.bind ?_ (fun _ => ?_)
set_option maxHeartbeats 8000000 in
set_option maxRecDepth 100000 in
theorem postbagref01_Bit0.calls (k : Nat) (a0 : Int) (a1 : Int) (r : Int) (w : World) (h : postbagref01_Bit0.f k a0 a1 = some r) :
    Calls Try.prog 27 #[.int .u64 a0, .int .i64 a1] w fun e w' => e = .returned (.int .u64 r) ∧ Drawn0 w w' := by
  have H : (if a1 < 0 then (postbagref01_Bit0.j0 k a0 a1 true) else (postbagref01_Bit0.j0 k a0 a1 (decide (a1 > 63)))) = some r := h
  clear h
  have HC3 := Aside0.mk H
  clear H
  go_enter Try.func27, Try.ntmps27
  go_upto_region 1 with (fail)
  go_cut [11] (fun v11 wc => ∃ (kq : Nat) (x11_2 : Bool), v11 = .bool x11_2 ∧ Aside0 (postbagref01_Bit0.j0 kq a0 a1 x11_2 = some r) ∧ Aside0 (kq ≤ k) ∧ Drawn0 w wc)
  case first =>
    have H := HC3.out
    clear HC3
    by_cases c4 : a1 < 0
    · rw [if_pos c4] at H
      have c4b0 : decide (a1 < 0) = true := decide_eq_true c4
      clear c4
      (first | rw [c4b0] | (simp only [i64_w, i32_w]; rw [c4b0]) | skip)
      have H' := Aside0.mk H
      clear H
      go_wp2
      go_meet
      case rel => exact ⟨_, (true), (by first | rfl | (simp; done) | (simp [*]; done)), H', ⟨by first | omega | exact Nat.le_refl _⟩, by repeat (first | exact Drawn0.refl _ | apply Drawn0.step)⟩
    · rw [if_neg c4] at H
      have c4b0 : decide (a1 < 0) = false := decide_eq_false c4
      clear c4
      (first | rw [c4b0] | (simp only [i64_w, i32_w]; rw [c4b0]) | skip)
      have H' := Aside0.mk H
      clear H
      go_wp2
      go_meet
      case rel => exact ⟨_, (decide (a1 > 63)), (by first | rfl | (simp; done) | (simp [*]; done)), H', ⟨by first | omega | exact Nat.le_refl _⟩, by repeat (first | exact Drawn0.refl _ | apply Drawn0.step)⟩
  case rest =>
    clear HC3
    try clear c2
    try clear p2
    try clear c4
    try clear c4b0
    obtain ⟨kq, x11_2, rfl, HA, HJ2, ⟨mc2, rfl⟩⟩ := hcut
    cases kq with
    | zero => exact absurd HA.out (by simp [postbagref01_Bit0.j0])
    | succ kj2 =>
      have H := HA.out
      clear HA
      simp only [postbagref01_Bit0.j0] at H
      by_cases c5 : x11_2 = true
      · subst c5
        have H1 : (some 0) = some r := by rw [if_pos rfl] at H; exact H
        clear H
        have H := H1
        clear H1
        obtain rfl := Option.some.inj H
        go_wp2
        go_ret
        exact ⟨by first | rfl | (simp; done) | (simp [*]; done), by repeat (first | exact Drawn0.refl _ | apply Drawn0.step)⟩
      · replace c5 := Bool.eq_false_iff.mpr c5
        subst c5
        have H1 : (postbagref01_Bit0.l0 kj2 a0 a1 0) = some r := by rw [if_neg (show ¬ (false = true) by decide)] at H; exact H
        clear H
        have H := H1
        clear H1
        have H' := Aside0.mk H
        clear H
        go_wp2
        go_loopg [0, 5] kj2 (fun kq v0 v5 w' => ∃ (x0_2 : Int) (x5_2 : Int), v0 = .int .u64 x0_2 ∧ v5 = .int .i64 x5_2 ∧ Aside0 (postbagref01_Bit0.l0 kq x0_2 a1 x5_2 = some r) ∧ Aside0 (kq ≤ kj2) ∧ Drawn0 w w')
        case atStart => exact ⟨(a0), (0), (by first | rfl | (simp; done) | (simp [*]; done)), (by first | rfl | (simp; done) | (simp [*]; done)), H', ⟨Nat.le_refl _⟩, by repeat (first | exact Drawn0.refl _ | apply Drawn0.step)⟩
        case round =>
          clear H'
          try clear c2
          try clear p2
          try clear c4
          try clear c4b0
          try clear c5
          try clear p2
          obtain ⟨x0_2, x5_2, rfl, rfl, HA, HK2, ⟨m2, rfl⟩⟩ := hrel
          cases gk with
          | zero => exact absurd HA.out (by simp [postbagref01_Bit0.l0])
          | succ k2 =>
            have H := HA.out
            clear HA
            simp only [postbagref01_Bit0.l0] at H
            by_cases c6 : x5_2 < a1
            · rw [if_pos c6] at H
              have c6b0 : decide (x5_2 < a1) = true := decide_eq_true c6
              clear c6
              have H' := Aside0.mk H
              clear H
              go_wp2
              go_roundg k2
              case measure => have := HJ2.out; have := HK2.out; omega
              case rel => exact ⟨(IntKind.u64.wrap (Int.tdiv x0_2 2)), (wrap64 (x5_2 + 1)), (by first | rfl | (simp; done) | (simp [*]; done)), (by first | rfl | (simp; done) | (simp [*]; done)), H', ⟨by have := HJ2.out; have := HK2.out; omega⟩, by repeat (first | exact Drawn0.refl _ | apply Drawn0.step)⟩
            · rw [if_neg c6] at H
              have c6b0 : decide (x5_2 < a1) = false := decide_eq_false c6
              clear c6
              obtain rfl := Option.some.inj H
              go_wp2
              go_ret
              exact ⟨by first | rfl | (simp; done) | (simp [*]; done), by repeat (first | exact Drawn0.refl _ | apply Drawn0.step)⟩
def postbagref01_Bit.f (a0 : Int) (a1 : Int) : Option (Int) := if U64 a0 then some (bitOf a0 a1) else none
theorem postbagref01_Bit.loop (d : Nat) : ∀ (k : Nat) (x i j : Int), U64 x → 0 ≤ i → j ≤ 63 → j - i = d → d < k → postbagref01_Bit0.l0 k x j i = some (x / 2 ^ d % 2) := by
  induction d with
  | zero =>
    intro k x i j hx h0 h1 hd hk
    obtain ⟨k, rfl⟩ : ∃ m, k = m + 1 := ⟨k - 1, by omega⟩
    simp only [postbagref01_Bit0.l0]
    rw [if_neg (by omega), Int.tmod_eq_emod_of_nonneg hx.1, Int.pow_zero, Int.ediv_one]
  | succ d ih =>
    intro k x i j hx h0 h1 hd hk
    obtain ⟨k, rfl⟩ : ∃ m, k = m + 1 := ⟨k - 1, by omega⟩
    simp only [postbagref01_Bit0.l0]
    have hx2 : U64 (x / 2) := by have := hx; unfold U64 at *; omega
    rw [if_pos (by omega), Int.tdiv_eq_ediv_of_nonneg hx.1, hx2.wrap_eq, I64.wrap_eq (by unfold I64; omega), ih k _ _ _ hx2 (by omega) h1 (by omega) (by omega), Int.ediv_ediv_of_nonneg (by omega), Int.pow_succ, Int.mul_comm]
theorem postbagref01_Bit.spec (a0 a1 r : Int) (h : postbagref01_Bit.f a0 a1 = some r) : ∃ k, postbagref01_Bit0.f k a0 a1 = some r := by
  unfold postbagref01_Bit.f at h
  by_cases hu : U64 a0
  · rw [if_pos hu] at h
    obtain rfl := Option.some.inj h
    refine ⟨a1.toNat + 3, ?_⟩
    unfold postbagref01_Bit0.f bitOf
    by_cases h1 : a1 < 0
    · rw [if_pos h1, if_pos (Or.inl h1)]; simp only [postbagref01_Bit0.j0, if_true]
    · rw [if_neg h1]
      by_cases h2 : a1 > 63
      · rw [if_pos (Or.inr h2), decide_eq_true h2]; simp only [postbagref01_Bit0.j0, if_true]
      · rw [if_neg (by omega), decide_eq_false h2]
        simp only [postbagref01_Bit0.j0]
        rw [if_neg (by decide), postbagref01_Bit.loop a1.toNat _ _ _ _ hu (by omega) (by omega) (by omega) (by omega)]
  · rw [if_neg hu] at h; exact absurd h (by simp)
theorem postbagref01_Bit.eq {a0 : Int} (h : U64 a0) (a1 : Int) : postbagref01_Bit.f a0 a1 = some (bitOf a0 a1) := if_pos h

theorem postbagref01_Bit.calls (a0 : Int) (a1 : Int) (r : Int) (w : World) (h : postbagref01_Bit.f a0 a1 = some r) :
    Calls Try.prog 27 #[.int .u64 a0, .int .i64 a1] w fun e w' => e = .returned (.int .u64 r) ∧ Drawn0 w w' := by
  obtain ⟨k, hk⟩ := postbagref01_Bit.spec a0 a1 r h
  exact postbagref01_Bit0.calls k a0 a1 r w hk

/-! ### postbagref01_high0: function 26 -/
def postbagref01_high0.l0 : Nat → Int → Int → Int → Int → Int → Option (Int)
  | 0, _, _, _, _, _ => none
  | k + 1, x0, x1, x5, x6, x7 => if x7 ≥ 0 then ((postbagref01_Bit.f x6 63).bind fun t101 => ((postbagref01_Bit.f x1 x7).bind fun t102 => (if t102 = 1 then (if (IntKind.u64.wrap ((IntKind.u64.wrap (2 * x6)) + x0)) < (IntKind.u64.wrap (2 * x6)) then (postbagref01_high0.l0 k x0 x1 (IntKind.u64.wrap ((IntKind.u64.wrap ((IntKind.u64.wrap (2 * x5)) + t101)) + 1)) (IntKind.u64.wrap ((IntKind.u64.wrap (2 * x6)) + x0)) (wrap64 (x7 - 1))) else (postbagref01_high0.l0 k x0 x1 (IntKind.u64.wrap ((IntKind.u64.wrap (2 * x5)) + t101)) (IntKind.u64.wrap ((IntKind.u64.wrap (2 * x6)) + x0)) (wrap64 (x7 - 1)))) else (postbagref01_high0.l0 k x0 x1 (IntKind.u64.wrap ((IntKind.u64.wrap (2 * x5)) + t101)) (IntKind.u64.wrap (2 * x6)) (wrap64 (x7 - 1)))))) else (some x5)
def postbagref01_high0.f (k : Nat) (a0 : Int) (a1 : Int) : Option (Int) := postbagref01_high0.l0 k a0 a1 0 0 63
theorem postbagref01_high0.mono_l : ∀ k, (∀ y0 y1 y2 y3 y4, LeO (postbagref01_high0.l0 k y0 y1 y2 y3 y4) (postbagref01_high0.l0 (k + 1) y0 y1 y2 y3 y4))
  | 0 => fun _ _ _ _ _ r h => by simp [postbagref01_high0.l0] at h
  | k + 1 => by
    have ih0 := postbagref01_high0.mono_l k
    · intro y0 y1 y2 y3 y4
      unfold postbagref01_high0.l0
      repeat' first
      | (with_reducible exact ih0 _ _ _ _ _)
      | (with_reducible exact LeO.refl _)
      | (with_reducible exact LeO.none _)
      | (with_reducible refine LeO.ite ?_ ?_)
      | (with_reducible refine LeO.bind ?_ (fun _ => ?_))
      | exact ih0 _ _ _ _ _
      | exact LeO.none _
      | refine LeO.ite ?_ ?_
      | refine LeO.bind ?_ (fun _ => ?_)
theorem postbagref01_high0.mono : ∀ a0 a1 k, LeO (postbagref01_high0.f k a0 a1) (postbagref01_high0.f (k + 1) a0 a1) := by
  intro a0 a1 k
  have ih0 := postbagref01_high0.mono_l k
  unfold postbagref01_high0.f
  repeat' first
      | (with_reducible exact ih0 _ _ _ _ _)
      | (with_reducible exact LeO.refl _)
      | (with_reducible exact LeO.none _)
      | (with_reducible refine LeO.ite ?_ ?_)
      | (with_reducible refine LeO.bind ?_ (fun _ => ?_))
      | exact ih0 _ _ _ _ _
      | exact LeO.none _
      | refine LeO.ite ?_ ?_
      | refine LeO.bind ?_ (fun _ => ?_)
set_option maxHeartbeats 8000000 in
set_option maxRecDepth 100000 in
theorem postbagref01_high0.calls (k : Nat) (a0 : Int) (a1 : Int) (r : Int) (w : World) (h : postbagref01_high0.f k a0 a1 = some r) :
    Calls Try.prog 26 #[.int .u64 a0, .int .u64 a1] w fun e w' => e = .returned (.int .u64 r) ∧ Drawn0 w w' := by
  have H : (postbagref01_high0.l0 k a0 a1 0 0 63) = some r := h
  clear h
  have H' := Aside0.mk H
  clear H
  go_enter Try.func26, Try.ntmps26
  go_wp2
  go_loopg [5, 6, 7] k (fun kq v5 v6 v7 w' => ∃ (x5_1 : Int) (x6_1 : Int) (x7_1 : Int), v5 = .int .u64 x5_1 ∧ v6 = .int .u64 x6_1 ∧ v7 = .int .i64 x7_1 ∧ Aside0 (postbagref01_high0.l0 kq a0 a1 x5_1 x6_1 x7_1 = some r) ∧ Aside0 (kq ≤ k) ∧ Drawn0 w w')
  case atStart => exact ⟨(0), (0), (63), (by first | rfl | (simp; done) | (simp [*]; done)), (by first | rfl | (simp; done) | (simp [*]; done)), (by first | rfl | (simp; done) | (simp [*]; done)), H', ⟨Nat.le_refl _⟩, by repeat (first | exact Drawn0.refl _ | apply Drawn0.step)⟩
  case round =>
    clear H'
    try clear c2
    try clear p2
    obtain ⟨x5_1, x6_1, x7_1, rfl, rfl, rfl, HA, HK1, ⟨m1, rfl⟩⟩ := hrel
    cases gk with
    | zero => exact absurd HA.out (by simp [postbagref01_high0.l0])
    | succ k1 =>
      have H := HA.out
      clear HA
      simp only [postbagref01_high0.l0] at H
      by_cases c3 : x7_1 ≥ 0
      · rw [if_pos c3] at H
        have c3b0 : decide (0 ≤ x7_1) = true := decide_eq_true c3
        clear c3
        replace H := Option.bind_eq_some_iff.mp H
        obtain ⟨t101, A40, H⟩ := H
        replace H : ((postbagref01_Bit.f a1 x7_1).bind fun t102 => (if t102 = 1 then (if (IntKind.u64.wrap ((IntKind.u64.wrap (2 * x6_1)) + a0)) < (IntKind.u64.wrap (2 * x6_1)) then (postbagref01_high0.l0 k1 a0 a1 (IntKind.u64.wrap ((IntKind.u64.wrap ((IntKind.u64.wrap (2 * x5_1)) + t101)) + 1)) (IntKind.u64.wrap ((IntKind.u64.wrap (2 * x6_1)) + a0)) (wrap64 (x7_1 - 1))) else (postbagref01_high0.l0 k1 a0 a1 (IntKind.u64.wrap ((IntKind.u64.wrap (2 * x5_1)) + t101)) (IntKind.u64.wrap ((IntKind.u64.wrap (2 * x6_1)) + a0)) (wrap64 (x7_1 - 1)))) else (postbagref01_high0.l0 k1 a0 a1 (IntKind.u64.wrap ((IntKind.u64.wrap (2 * x5_1)) + t101)) (IntKind.u64.wrap (2 * x6_1)) (wrap64 (x7_1 - 1))))) = some r := H
        have A4 := Aside0.mk A40
        clear A40
        replace H := Option.bind_eq_some_iff.mp H
        obtain ⟨t102, A50, H⟩ := H
        replace H : (if t102 = 1 then (if (IntKind.u64.wrap ((IntKind.u64.wrap (2 * x6_1)) + a0)) < (IntKind.u64.wrap (2 * x6_1)) then (postbagref01_high0.l0 k1 a0 a1 (IntKind.u64.wrap ((IntKind.u64.wrap ((IntKind.u64.wrap (2 * x5_1)) + t101)) + 1)) (IntKind.u64.wrap ((IntKind.u64.wrap (2 * x6_1)) + a0)) (wrap64 (x7_1 - 1))) else (postbagref01_high0.l0 k1 a0 a1 (IntKind.u64.wrap ((IntKind.u64.wrap (2 * x5_1)) + t101)) (IntKind.u64.wrap ((IntKind.u64.wrap (2 * x6_1)) + a0)) (wrap64 (x7_1 - 1)))) else (postbagref01_high0.l0 k1 a0 a1 (IntKind.u64.wrap ((IntKind.u64.wrap (2 * x5_1)) + t101)) (IntKind.u64.wrap (2 * x6_1)) (wrap64 (x7_1 - 1)))) = some r := H
        have A5 := Aside0.mk A50
        clear A50
        by_cases c6 : t102 = 1
        · rw [if_pos c6] at H
          have c6b0 : (t102 == 1) = true := beq_iff_eq.mpr c6
          have c6b1 : (t102 != 1) = false := bne_eq_false_iff_eq.mpr c6
          clear c6
          by_cases c7 : (IntKind.u64.wrap ((IntKind.u64.wrap (2 * x6_1)) + a0)) < (IntKind.u64.wrap (2 * x6_1))
          · rw [if_pos c7] at H
            have c7b0 : decide ((IntKind.u64.wrap ((IntKind.u64.wrap (2 * x6_1)) + a0)) < (IntKind.u64.wrap (2 * x6_1))) = true := decide_eq_true c7
            clear c7
            have H' := Aside0.mk H
            clear H
            go_wp2_with (first | ((with_reducible refine gate_callee (f := 27) rfl ?_); refine goesL_ (some 16) rfl rfl Try.func27 (by kernel_rfl) rfl #[.int .u64 x6_1, .int .i64 63] rfl (by (try simp only [List.map_toArray, List.map_cons, List.map_nil]); first | done | rfl | (simp only [List.length_drop, List.length_take]; rfl)) ?_; (with_reducible refine (postbagref01_Bit.calls x6_1 63 t101 _ A4.out).mono ?_); rintro e w' ⟨rfl, ⟨nd, rfl⟩⟩; refine ⟨_, rfl, ?_⟩) | ((with_reducible refine gate_callee (f := 27) rfl ?_); refine goesL_ (some 22) rfl rfl Try.func27 (by kernel_rfl) rfl #[.int .u64 a1, .int .i64 x7_1] rfl (by (try simp only [List.map_toArray, List.map_cons, List.map_nil]); first | done | rfl | (simp only [List.length_drop, List.length_take]; rfl)) ?_; (with_reducible refine (postbagref01_Bit.calls a1 x7_1 t102 _ A5.out).mono ?_); rintro e w' ⟨rfl, ⟨nd, rfl⟩⟩; refine ⟨_, rfl, ?_⟩))
            go_roundg k1
            case measure => have := HK1.out; omega
            case rel => exact ⟨(IntKind.u64.wrap ((IntKind.u64.wrap ((IntKind.u64.wrap (2 * x5_1)) + t101)) + 1)), (IntKind.u64.wrap ((IntKind.u64.wrap (2 * x6_1)) + a0)), (wrap64 (x7_1 - 1)), (by first | rfl | (simp; done) | (simp [*]; done)), (by first | rfl | (simp; done) | (simp [*]; done)), (by first | rfl | (simp; done) | (simp [*]; done)), H', ⟨by have := HK1.out; omega⟩, by repeat (first | exact Drawn0.refl _ | apply Drawn0.step)⟩
          · rw [if_neg c7] at H
            have c7b0 : decide ((IntKind.u64.wrap ((IntKind.u64.wrap (2 * x6_1)) + a0)) < (IntKind.u64.wrap (2 * x6_1))) = false := decide_eq_false c7
            clear c7
            have H' := Aside0.mk H
            clear H
            go_wp2_with (first | ((with_reducible refine gate_callee (f := 27) rfl ?_); refine goesL_ (some 16) rfl rfl Try.func27 (by kernel_rfl) rfl #[.int .u64 x6_1, .int .i64 63] rfl (by (try simp only [List.map_toArray, List.map_cons, List.map_nil]); first | done | rfl | (simp only [List.length_drop, List.length_take]; rfl)) ?_; (with_reducible refine (postbagref01_Bit.calls x6_1 63 t101 _ A4.out).mono ?_); rintro e w' ⟨rfl, ⟨nd, rfl⟩⟩; refine ⟨_, rfl, ?_⟩) | ((with_reducible refine gate_callee (f := 27) rfl ?_); refine goesL_ (some 22) rfl rfl Try.func27 (by kernel_rfl) rfl #[.int .u64 a1, .int .i64 x7_1] rfl (by (try simp only [List.map_toArray, List.map_cons, List.map_nil]); first | done | rfl | (simp only [List.length_drop, List.length_take]; rfl)) ?_; (with_reducible refine (postbagref01_Bit.calls a1 x7_1 t102 _ A5.out).mono ?_); rintro e w' ⟨rfl, ⟨nd, rfl⟩⟩; refine ⟨_, rfl, ?_⟩))
            go_roundg k1
            case measure => have := HK1.out; omega
            case rel => exact ⟨(IntKind.u64.wrap ((IntKind.u64.wrap (2 * x5_1)) + t101)), (IntKind.u64.wrap ((IntKind.u64.wrap (2 * x6_1)) + a0)), (wrap64 (x7_1 - 1)), (by first | rfl | (simp; done) | (simp [*]; done)), (by first | rfl | (simp; done) | (simp [*]; done)), (by first | rfl | (simp; done) | (simp [*]; done)), H', ⟨by have := HK1.out; omega⟩, by repeat (first | exact Drawn0.refl _ | apply Drawn0.step)⟩
        · rw [if_neg c6] at H
          have c6b0 : (t102 == 1) = false := beq_eq_false_iff_ne.mpr c6
          have c6b1 : (t102 != 1) = true := bne_iff_ne.mpr c6
          have H' := Aside0.mk H
          clear H
          go_wp2_with (first | ((with_reducible refine gate_callee (f := 27) rfl ?_); refine goesL_ (some 16) rfl rfl Try.func27 (by kernel_rfl) rfl #[.int .u64 x6_1, .int .i64 63] rfl (by (try simp only [List.map_toArray, List.map_cons, List.map_nil]); first | done | rfl | (simp only [List.length_drop, List.length_take]; rfl)) ?_; (with_reducible refine (postbagref01_Bit.calls x6_1 63 t101 _ A4.out).mono ?_); rintro e w' ⟨rfl, ⟨nd, rfl⟩⟩; refine ⟨_, rfl, ?_⟩) | ((with_reducible refine gate_callee (f := 27) rfl ?_); refine goesL_ (some 22) rfl rfl Try.func27 (by kernel_rfl) rfl #[.int .u64 a1, .int .i64 x7_1] rfl (by (try simp only [List.map_toArray, List.map_cons, List.map_nil]); first | done | rfl | (simp only [List.length_drop, List.length_take]; rfl)) ?_; (with_reducible refine (postbagref01_Bit.calls a1 x7_1 t102 _ A5.out).mono ?_); rintro e w' ⟨rfl, ⟨nd, rfl⟩⟩; refine ⟨_, rfl, ?_⟩))
          go_roundg k1
          case measure => have := HK1.out; omega
          case rel => exact ⟨(IntKind.u64.wrap ((IntKind.u64.wrap (2 * x5_1)) + t101)), (IntKind.u64.wrap (2 * x6_1)), (wrap64 (x7_1 - 1)), (by first | rfl | (simp; done) | (simp [*]; done)), (by first | rfl | (simp; done) | (simp [*]; done)), (by first | rfl | (simp; done) | (simp [*]; done)), H', ⟨by have := HK1.out; omega⟩, by repeat (first | exact Drawn0.refl _ | apply Drawn0.step)⟩
      · rw [if_neg c3] at H
        have c3b0 : decide (0 ≤ x7_1) = false := decide_eq_false c3
        clear c3
        obtain rfl := Option.some.inj H
        go_wp2
        go_ret
        exact ⟨by first | rfl | (simp; done) | (simp [*]; done), by repeat (first | exact Drawn0.refl _ | apply Drawn0.step)⟩
def postbagref01_high.f (a0 : Int) (a1 : Int) : Option (Int) := if U64 a0 ∧ U64 a1 then some (a0 * a1 / 18446744073709551616) else none
theorem postbagref01_high.loop (a b : Int) (ha : U64 a) (hb : U64 b) (i : Nat) : ∀ (k : Nat) (h l : Int), i ≤ 64 → i < k → U64 h → U64 l → h * 18446744073709551616 + l = a * (b / 2 ^ i) →
    postbagref01_high0.l0 k a b h l ((i : Int) - 1) = some (a * b / 18446744073709551616) := by
  induction i with
  | zero =>
    intro k h l hi hk hh hl e
    obtain ⟨k, rfl⟩ : ∃ m, k = m + 1 := ⟨k - 1, by omega⟩
    simp only [postbagref01_high0.l0]
    rw [if_neg (by omega)]
    rw [Int.pow_zero, Int.ediv_one] at e
    unfold U64 at hl
    congr 1; omega
  | succ i ih =>
    intro k h l hi hk hh hl e
    obtain ⟨k, rfl⟩ : ∃ m, k = m + 1 := ⟨k - 1, by omega⟩
    simp only [postbagref01_high0.l0]
    rw [show (((i + 1 : Nat) : Int) - 1) = (i : Int) from by omega, if_pos (by omega), postbagref01_Bit.eq hl, postbagref01_Bit.eq hb, I64.wrap_eq (show I64 ((i : Int) - 1) by unfold I64; omega)]
    simp only [Option.bind_some]
    have hb63 : bitOf l 63 = l / 9223372036854775808 % 2 := bitOf_nat l 63 (by omega)
    have hbi : bitOf b i = b / 2 ^ i % 2 := bitOf_nat b i (by omega)
    have hq : b / 2 ^ i = 2 * (b / 2 ^ (i + 1)) + b / 2 ^ i % 2 := by
      have h2 := Int.emod_add_mul_ediv (b / 2 ^ i) 2
      have h3 : b / 2 ^ i / 2 = b / 2 ^ (i + 1) := by rw [Int.pow_succ, Int.ediv_ediv_of_nonneg (Int.le_of_lt (ipos i))]
      rw [h3] at h2; omega
    have hq0 : 0 ≤ b / 2 ^ i := Int.ediv_nonneg hb.1 (Int.le_of_lt (ipos i))
    have hq1 : b / 2 ^ i ≤ 18446744073709551615 := Int.le_trans (Int.ediv_le_self _ hb.1) hb.2
    have hm0 := Int.mul_nonneg ha.1 hq0
    have hm1 := Int.mul_le_mul ha.2 hq1 hq0 (by decide : (0 : Int) ≤ 18446744073709551615)
    have hm : a * (b / 2 ^ i) = 2 * (a * (b / 2 ^ (i + 1))) + a * (b / 2 ^ i % 2) := by
      have h4 : a * (b / 2 ^ i) = a * (2 * (b / 2 ^ (i + 1)) + b / 2 ^ i % 2) := congrArg (a * ·) hq
      rw [h4, Int.mul_add, Int.mul_left_comm]
    rw [← e] at hm
    generalize hM : a * (b / 2 ^ i) = T at *
    generalize a * (b / 2 ^ (i + 1)) = T2 at *
    rw [hb63, hbi]
    have hbit : b / 2 ^ i % 2 = 0 ∨ b / 2 ^ i % 2 = 1 := by omega
    unfold U64 at hh hl ha
    rcases hbit with hz | hz <;> rw [hz] at hm ⊢
    · rw [if_neg (by decide)]
      rw [Int.mul_zero] at hm
      refine ih k _ _ (by omega) (by omega) (U64.wrap _) (U64.wrap _) ?_
      simp only [u64w]; omega
    · rw [if_pos rfl]
      rw [Int.mul_one] at hm
      by_cases hc : IntKind.u64.wrap (IntKind.u64.wrap (2 * l) + a) < IntKind.u64.wrap (2 * l)
      · rw [if_pos hc]
        refine ih k _ _ (by omega) (by omega) (U64.wrap _) (U64.wrap _) ?_
        simp only [u64w] at *; omega
      · rw [if_neg hc]
        refine ih k _ _ (by omega) (by omega) (U64.wrap _) (U64.wrap _) ?_
        simp only [u64w] at *; omega
theorem postbagref01_high.spec (a0 a1 r : Int) (h : postbagref01_high.f a0 a1 = some r) : ∃ k, postbagref01_high0.f k a0 a1 = some r := by
  unfold postbagref01_high.f at h
  by_cases hu : U64 a0 ∧ U64 a1
  · rw [if_pos hu] at h
    obtain rfl := Option.some.inj h
    refine ⟨66, ?_⟩
    unfold postbagref01_high0.f
    refine postbagref01_high.loop a0 a1 hu.1 hu.2 64 66 0 0 (by omega) (by omega) (by decide) (by decide) ?_
    have : a1 / 2 ^ 64 = 0 := by have := hu.2; unfold U64 at this; show a1 / 18446744073709551616 = 0; omega
    rw [this]; simp
  · rw [if_neg hu] at h; exact absurd h (by simp)

theorem postbagref01_high.calls (a0 : Int) (a1 : Int) (r : Int) (w : World) (h : postbagref01_high.f a0 a1 = some r) :
    Calls Try.prog 26 #[.int .u64 a0, .int .u64 a1] w fun e w' => e = .returned (.int .u64 r) ∧ Drawn0 w w' := by
  obtain ⟨k, hk⟩ := postbagref01_high.spec a0 a1 r h
  exact postbagref01_high0.calls k a0 a1 r w hk

/-! ### postbagref01_High0: function 12 -/
def postbagref01_High0.j0 : Nat → Int → Int → Bool → Int → Bool → Option (Int)
  | 0, _, _, _, _, _ => none
  | k + 1, x0, x1, x3, x9, x18 => if x18 = true then (if x3 = true then ((postbagref01_Bit.f x1 63).bind fun t105 => (if t105 = 1 then (some (IntKind.u64.wrap ((IntKind.u64.wrap (x9 - x1)) - x0))) else (some (IntKind.u64.wrap (x9 - x1))))) else (some (IntKind.u64.wrap (x9 - x1)))) else (if x3 = true then ((postbagref01_Bit.f x1 63).bind fun t106 => (if t106 = 1 then (some (IntKind.u64.wrap (x9 - x0))) else (some x9))) else (some x9))
def postbagref01_High0.f (k : Nat) (a0 : Int) (a1 : Int) (a2 : Bool) (a3 : Bool) : Option (Int) := (postbagref01_high.f a0 a1).bind fun t103 => (if a2 = true then ((postbagref01_Bit.f a0 63).bind fun t104 => (postbagref01_High0.j0 k a0 a1 a3 t103 (t104 == 1))) else (postbagref01_High0.j0 k a0 a1 a3 t103 false))
theorem postbagref01_High0.mono_l : ∀ k, (∀ y0 y1 y2 y3 y4, LeO (postbagref01_High0.j0 k y0 y1 y2 y3 y4) (postbagref01_High0.j0 (k + 1) y0 y1 y2 y3 y4))
  | 0 => fun _ _ _ _ _ r h => by simp [postbagref01_High0.j0] at h
  | k + 1 => by
    have ih0 := postbagref01_High0.mono_l k
    · intro y0 y1 y2 y3 y4
      unfold postbagref01_High0.j0
      repeat' first
      | (with_reducible exact ih0 _ _ _ _ _)
      | (with_reducible exact LeO.refl _)
      | (with_reducible exact LeO.none _)
      | (with_reducible refine LeO.ite ?_ ?_)
      | (with_reducible refine LeO.bind ?_ (fun _ => ?_))
      | exact ih0 _ _ _ _ _
      | exact LeO.none _
      | refine LeO.ite ?_ ?_
      | refine LeO.bind ?_ (fun _ => ?_)
theorem postbagref01_High0.mono : ∀ a0 a1 a2 a3 k, LeO (postbagref01_High0.f k a0 a1 a2 a3) (postbagref01_High0.f (k + 1) a0 a1 a2 a3) := by
  intro a0 a1 a2 a3 k
  have ih0 := postbagref01_High0.mono_l k
  unfold postbagref01_High0.f
  repeat' first
      | (with_reducible exact ih0 _ _ _ _ _)
      | (with_reducible exact LeO.refl _)
      | (with_reducible exact LeO.none _)
      | (with_reducible refine LeO.ite ?_ ?_)
      | (with_reducible refine LeO.bind ?_ (fun _ => ?_))
      | exact ih0 _ _ _ _ _
      | exact LeO.none _
      | refine LeO.ite ?_ ?_
      | refine LeO.bind ?_ (fun _ => ?_)
set_option maxHeartbeats 8000000 in
set_option maxRecDepth 100000 in
theorem postbagref01_High0.calls (k : Nat) (a0 : Int) (a1 : Int) (a2 : Bool) (a3 : Bool) (r : Int) (w : World) (h : postbagref01_High0.f k a0 a1 a2 a3 = some r) :
    Calls Try.prog 12 #[.int .u64 a0, .int .u64 a1, .bool a2, .bool a3] w fun e w' => e = .returned (.int .u64 r) ∧ Drawn0 w w' := by
  have H : ((postbagref01_high.f a0 a1).bind fun t103 => (if a2 = true then ((postbagref01_Bit.f a0 63).bind fun t104 => (postbagref01_High0.j0 k a0 a1 a3 t103 (t104 == 1))) else (postbagref01_High0.j0 k a0 a1 a3 t103 false))) = some r := h
  clear h
  replace H := Option.bind_eq_some_iff.mp H
  obtain ⟨t103, A50, H⟩ := H
  replace H : (if a2 = true then ((postbagref01_Bit.f a0 63).bind fun t104 => (postbagref01_High0.j0 k a0 a1 a3 t103 (t104 == 1))) else (postbagref01_High0.j0 k a0 a1 a3 t103 false)) = some r := H
  have A5 := Aside0.mk A50
  clear A50
  have HC6 := Aside0.mk H
  clear H
  go_enter Try.func12, Try.ntmps12
  go_upto_region 2 with (first | ((with_reducible refine gate_callee (f := 26) rfl ?_); refine goesL_ (some 12) rfl rfl Try.func26 (by kernel_rfl) rfl #[.int .u64 a0, .int .u64 a1] rfl (by (try simp only [List.map_toArray, List.map_cons, List.map_nil]); first | done | rfl | (simp only [List.length_drop, List.length_take]; rfl)) ?_; (with_reducible refine (postbagref01_high.calls a0 a1 t103 _ A5.out).mono ?_); rintro e w' ⟨rfl, ⟨nd, rfl⟩⟩; refine ⟨_, rfl, ?_⟩))
  (try simp only [Act.put, List.setIfInBounds_toArray, List.set_cons_zero, List.set_cons_succ])
  go_cut [18] (fun v18 wc => ∃ (kq : Nat) (x18_5 : Bool), v18 = .bool x18_5 ∧ Aside0 (postbagref01_High0.j0 kq a0 a1 a3 t103 x18_5 = some r) ∧ Aside0 (kq ≤ k) ∧ Drawn0 w wc)
  case first =>
    have H := HC6.out
    clear HC6
    by_cases c7 : a2 = true
    · subst c7
      have H1 : ((postbagref01_Bit.f a0 63).bind fun t104 => (postbagref01_High0.j0 k a0 a1 a3 t103 (t104 == 1))) = some r := by rw [if_pos rfl] at H; exact H
      clear H
      have H := H1
      clear H1
      replace H := Option.bind_eq_some_iff.mp H
      obtain ⟨t104, A80, H⟩ := H
      replace H : (postbagref01_High0.j0 k a0 a1 a3 t103 (t104 == 1)) = some r := H
      have A8 := Aside0.mk A80
      clear A80
      have H' := Aside0.mk H
      clear H
      go_wp2_with (first | (go_at_call 27; (with_reducible refine (postbagref01_Bit.calls a0 63 t104 _ A8.out).mono ?_); rintro e w' ⟨rfl, ⟨nd, rfl⟩⟩))
      go_meet
      case rel => exact ⟨_, ((t104 == 1)), (by first | rfl | (simp; done) | (simp [*]; done)), H', ⟨by first | omega | exact Nat.le_refl _⟩, by repeat (first | exact Drawn0.refl _ | apply Drawn0.step)⟩
    · replace c7 := Bool.eq_false_iff.mpr c7
      subst c7
      have H1 : (postbagref01_High0.j0 k a0 a1 a3 t103 false) = some r := by rw [if_neg (show ¬ (false = true) by decide)] at H; exact H
      clear H
      have H := H1
      clear H1
      have H' := Aside0.mk H
      clear H
      go_wp2
      go_meet
      case rel => exact ⟨_, (false), (by first | rfl | (simp; done) | (simp [*]; done)), H', ⟨by first | omega | exact Nat.le_refl _⟩, by repeat (first | exact Drawn0.refl _ | apply Drawn0.step)⟩
  case rest =>
    clear HC6
    try clear c1
    try clear c2
    try clear p2
    try clear c7
    obtain ⟨kq, x18_5, rfl, HA, HJ5, ⟨mc5, rfl⟩⟩ := hcut
    cases kq with
    | zero => exact absurd HA.out (by simp [postbagref01_High0.j0])
    | succ kj5 =>
      have H := HA.out
      clear HA
      simp only [postbagref01_High0.j0] at H
      by_cases c9 : x18_5 = true
      · subst c9
        have H1 : (if a3 = true then ((postbagref01_Bit.f a1 63).bind fun t105 => (if t105 = 1 then (some (IntKind.u64.wrap ((IntKind.u64.wrap (t103 - a1)) - a0))) else (some (IntKind.u64.wrap (t103 - a1))))) else (some (IntKind.u64.wrap (t103 - a1)))) = some r := by rw [if_pos rfl] at H; exact H
        clear H
        have H := H1
        clear H1
        by_cases c10 : a3 = true
        · subst c10
          have H1 : ((postbagref01_Bit.f a1 63).bind fun t105 => (if t105 = 1 then (some (IntKind.u64.wrap ((IntKind.u64.wrap (t103 - a1)) - a0))) else (some (IntKind.u64.wrap (t103 - a1))))) = some r := by rw [if_pos rfl] at H; exact H
          clear H
          have H := H1
          clear H1
          replace H := Option.bind_eq_some_iff.mp H
          obtain ⟨t105, A110, H⟩ := H
          replace H : (if t105 = 1 then (some (IntKind.u64.wrap ((IntKind.u64.wrap (t103 - a1)) - a0))) else (some (IntKind.u64.wrap (t103 - a1)))) = some r := H
          have A11 := Aside0.mk A110
          clear A110
          by_cases c12 : t105 = 1
          · rw [if_pos c12] at H
            have c12b0 : (t105 == 1) = true := beq_iff_eq.mpr c12
            have c12b1 : (t105 != 1) = false := bne_eq_false_iff_eq.mpr c12
            clear c12
            obtain rfl := Option.some.inj H
            go_wp2_with (first | (go_at_call 27; (with_reducible refine (postbagref01_Bit.calls a1 63 t105 _ A11.out).mono ?_); rintro e w' ⟨rfl, ⟨nd, rfl⟩⟩))
            go_ret
            exact ⟨by first | rfl | (simp; done) | (simp [*]; done), by repeat (first | exact Drawn0.refl _ | apply Drawn0.step)⟩
          · rw [if_neg c12] at H
            have c12b0 : (t105 == 1) = false := beq_eq_false_iff_ne.mpr c12
            have c12b1 : (t105 != 1) = true := bne_iff_ne.mpr c12
            obtain rfl := Option.some.inj H
            go_wp2_with (first | (go_at_call 27; (with_reducible refine (postbagref01_Bit.calls a1 63 t105 _ A11.out).mono ?_); rintro e w' ⟨rfl, ⟨nd, rfl⟩⟩))
            go_ret
            exact ⟨by first | rfl | (simp; done) | (simp [*]; done), by repeat (first | exact Drawn0.refl _ | apply Drawn0.step)⟩
        · replace c10 := Bool.eq_false_iff.mpr c10
          subst c10
          have H1 : (some (IntKind.u64.wrap (t103 - a1))) = some r := by rw [if_neg (show ¬ (false = true) by decide)] at H; exact H
          clear H
          have H := H1
          clear H1
          obtain rfl := Option.some.inj H
          go_wp2
          go_ret
          exact ⟨by first | rfl | (simp; done) | (simp [*]; done), by repeat (first | exact Drawn0.refl _ | apply Drawn0.step)⟩
      · replace c9 := Bool.eq_false_iff.mpr c9
        subst c9
        have H1 : (if a3 = true then ((postbagref01_Bit.f a1 63).bind fun t106 => (if t106 = 1 then (some (IntKind.u64.wrap (t103 - a0))) else (some t103))) else (some t103)) = some r := by rw [if_neg (show ¬ (false = true) by decide)] at H; exact H
        clear H
        have H := H1
        clear H1
        by_cases c13 : a3 = true
        · subst c13
          have H1 : ((postbagref01_Bit.f a1 63).bind fun t106 => (if t106 = 1 then (some (IntKind.u64.wrap (t103 - a0))) else (some t103))) = some r := by rw [if_pos rfl] at H; exact H
          clear H
          have H := H1
          clear H1
          replace H := Option.bind_eq_some_iff.mp H
          obtain ⟨t106, A140, H⟩ := H
          replace H : (if t106 = 1 then (some (IntKind.u64.wrap (t103 - a0))) else (some t103)) = some r := H
          have A14 := Aside0.mk A140
          clear A140
          by_cases c15 : t106 = 1
          · rw [if_pos c15] at H
            have c15b0 : (t106 == 1) = true := beq_iff_eq.mpr c15
            have c15b1 : (t106 != 1) = false := bne_eq_false_iff_eq.mpr c15
            clear c15
            obtain rfl := Option.some.inj H
            go_wp2_with (first | (go_at_call 27; (with_reducible refine (postbagref01_Bit.calls a1 63 t106 _ A14.out).mono ?_); rintro e w' ⟨rfl, ⟨nd, rfl⟩⟩))
            go_ret
            exact ⟨by first | rfl | (simp; done) | (simp [*]; done), by repeat (first | exact Drawn0.refl _ | apply Drawn0.step)⟩
          · rw [if_neg c15] at H
            have c15b0 : (t106 == 1) = false := beq_eq_false_iff_ne.mpr c15
            have c15b1 : (t106 != 1) = true := bne_iff_ne.mpr c15
            obtain rfl := Option.some.inj H
            go_wp2_with (first | (go_at_call 27; (with_reducible refine (postbagref01_Bit.calls a1 63 t106 _ A14.out).mono ?_); rintro e w' ⟨rfl, ⟨nd, rfl⟩⟩))
            go_ret
            exact ⟨by first | rfl | (simp; done) | (simp [*]; done), by repeat (first | exact Drawn0.refl _ | apply Drawn0.step)⟩
        · replace c13 := Bool.eq_false_iff.mpr c13
          subst c13
          have H1 : (some t103) = some r := by rw [if_neg (show ¬ (false = true) by decide)] at H; exact H
          clear H
          have H := H1
          clear H1
          obtain rfl := Option.some.inj H
          go_wp2
          go_ret
          exact ⟨by first | rfl | (simp; done) | (simp [*]; done), by repeat (first | exact Drawn0.refl _ | apply Drawn0.step)⟩
def postbagref01_High.f (a0 : Int) (a1 : Int) (a2 : Bool) (a3 : Bool) : Option (Int) := if U64 a0 ∧ U64 a1 then some (hiOf a0 a1 a2 a3) else none
theorem postbagref01_High.spec (a0 a1 : Int) (a2 a3 : Bool) (r : Int) (h : postbagref01_High.f a0 a1 a2 a3 = some r) : ∃ k, postbagref01_High0.f k a0 a1 a2 a3 = some r := by
  unfold postbagref01_High.f at h
  by_cases hu : U64 a0 ∧ U64 a1
  · rw [if_pos hu] at h
    obtain rfl := Option.some.inj h
    refine ⟨2, ?_⟩
    unfold postbagref01_High0.f postbagref01_high.f
    rw [if_pos hu, postbagref01_Bit.eq hu.1]
    simp only [Option.bind_some, postbagref01_High0.j0, postbagref01_Bit.eq hu.2]
    have e : ∀ x : Int, U64 x → bitOf x 63 = x / 9223372036854775808 := fun x hx => by
      have h := bitOf_nat x 63 (by omega); unfold U64 at hx; show bitOf x ((63 : Nat) : Int) = _; rw [h]; show x / 9223372036854775808 % 2 = _; omega
    rw [e _ hu.1, e _ hu.2]
    have hr := hi_range a0 a1 hu.1 hu.2
    unfold hiOf
    generalize a0 * a1 / 18446744073709551616 = q at *
    unfold U64 at hr
    cases a2 <;> cases a3 <;> simp only [if_true, if_false, Bool.false_eq_true, false_and, true_and, beq_iff_eq] <;> simp only [u64w]
    · congr 1; omega
    · split <;> (congr 1; omega)
    · split <;> (congr 1; omega)
    · split <;> split <;> (congr 1; omega)
  · rw [if_neg hu] at h; exact absurd h (by simp)

theorem postbagref01_High.calls (a0 : Int) (a1 : Int) (a2 : Bool) (a3 : Bool) (r : Int) (w : World) (h : postbagref01_High.f a0 a1 a2 a3 = some r) :
    Calls Try.prog 12 #[.int .u64 a0, .int .u64 a1, .bool a2, .bool a3] w fun e w' => e = .returned (.int .u64 r) ∧ Drawn0 w w' := by
  obtain ⟨k, hk⟩ := postbagref01_High.spec a0 a1 a2 a3 r h
  exact postbagref01_High0.calls k a0 a1 a2 a3 r w hk

/-! ### bits_Sign0: function 14 -/
def bits_Sign0.f (a0 : Int) (a1 : Int) : Option (Int) := if a1 < 1 then (some a0) else (if a1 ≥ 64 then (some a0) else (if 0 ≤ (wrap64 (64 - a1)) then (some (IntKind.u64.wrap (shr .i64 (wrap64 (shl .u64 a0 (wrap64 (64 - a1)))) (wrap64 (64 - a1))))) else (none)))
set_option maxHeartbeats 8000000 in
set_option maxRecDepth 100000 in
theorem bits_Sign0.calls (a0 : Int) (a1 : Int) (r : Int) (w : World) (h : bits_Sign0.f a0 a1 = some r) :
    Calls Try.prog 14 #[.int .u64 a0, .int .i64 a1] w fun e w' => e = .returned (.int .u64 r) ∧ Drawn0 w w' := by
  have H : (if a1 < 1 then (some a0) else (if a1 ≥ 64 then (some a0) else (if 0 ≤ (wrap64 (64 - a1)) then (some (IntKind.u64.wrap (shr .i64 (wrap64 (shl .u64 a0 (wrap64 (64 - a1)))) (wrap64 (64 - a1))))) else (none)))) = some r := h
  clear h
  by_cases c3 : a1 < 1
  · rw [if_pos c3] at H
    have c3b0 : decide (a1 < 1) = true := decide_eq_true c3
    clear c3
    obtain rfl := Option.some.inj H
    go_enter Try.func14, Try.ntmps14
    go_wp2
    go_ret
    exact ⟨by first | rfl | (simp; done) | (simp [*]; done), by repeat (first | exact Drawn0.refl _ | apply Drawn0.step)⟩
  · rw [if_neg c3] at H
    have c3b0 : decide (a1 < 1) = false := decide_eq_false c3
    clear c3
    by_cases c4 : a1 ≥ 64
    · rw [if_pos c4] at H
      have c4b0 : decide (64 ≤ a1) = true := decide_eq_true c4
      clear c4
      obtain rfl := Option.some.inj H
      go_enter Try.func14, Try.ntmps14
      go_wp2
      go_ret
      exact ⟨by first | rfl | (simp; done) | (simp [*]; done), by repeat (first | exact Drawn0.refl _ | apply Drawn0.step)⟩
    · rw [if_neg c4] at H
      have c4b0 : decide (64 ≤ a1) = false := decide_eq_false c4
      clear c4
      obtain ⟨ji5, hji5⟩ : ∃ j_ : Int, (wrap64 (64 - a1)) = j_ := ⟨_, rfl⟩
      replace H : (if 0 ≤ (ji5) then (some (IntKind.u64.wrap (shr .i64 (wrap64 (shl .u64 a0 (ji5))) (ji5)))) else (none)) = some r := by first | (rw [hji5] at H; exact H) | (simp only [hji5] at H ⊢; exact H)
      have hji5w : (IntKind.i64.wrap (64 - a1)) = ji5 := (i64_w _).trans hji5
      by_cases c6 : 0 ≤ (ji5)
      · rw [if_pos c6] at H
        have c6b0 := eq_true c6
        have c6b1 : decide (0 ≤ (ji5)) = true := decide_eq_true c6
        clear c6
        obtain ⟨ji7, hji7⟩ : ∃ j_ : Int, (shl .u64 a0 (ji5)) = j_ := ⟨_, rfl⟩
        replace H : (some (IntKind.u64.wrap (shr .i64 (wrap64 (ji7)) (ji5)))) = some r := by first | (rw [hji7] at H; exact H) | (simp only [hji7] at H ⊢; exact H)
        have hji7_ : (IntKind.u64.wrap (a0 * 2 ^ min (ji5).toNat 64)) = ji7 := hji7
        have hji7z : (ji5) ≤ 64 → (IntKind.u64.wrap (a0 * 2 ^ (ji5).toNat)) = ji7 := shl_small hji7
        have c8b0 := eq_true (of_decide_eq_true (by first | (with_reducible assumption) | assumption) : 0 ≤ (ji5))
        obtain ⟨ji9, hji9⟩ : ∃ j_ : Int, (shr .i64 (wrap64 (ji7)) (ji5)) = j_ := ⟨_, rfl⟩
        replace H : (some (IntKind.u64.wrap (ji9))) = some r := by first | (rw [hji9] at H; exact H) | (simp only [hji9] at H ⊢; exact H)
        have hji9_ : ((wrap64 (ji7)) / 2 ^ min (ji5).toNat 64) = ji9 := hji9
        have hji9z : (ji5) ≤ 64 → ((wrap64 (ji7)) / 2 ^ (ji5).toNat) = ji9 := shr_small hji9
        obtain rfl := Option.some.inj H
        go_enter Try.func14, Try.ntmps14
        go_wp2
        go_ret
        exact ⟨by first | rfl | (simp; done) | (simp only [← hji5, ← hji7, ← hji9] <;> (first | rfl | simp)) | (simp [*]; done), by repeat (first | exact Drawn0.refl _ | apply Drawn0.step)⟩
      · rw [if_neg c6] at H
        exact absurd H (by simp)
def bits_Sign.f (a0 : Int) (a1 : Int) : Option (Int) := if U64 a0 then some (signOf a0 a1) else none
theorem bits_Sign.spec (a0 a1 r : Int) (h : bits_Sign.f a0 a1 = some r) : bits_Sign0.f a0 a1 = some r := by
  unfold bits_Sign.f at h
  by_cases hu : U64 a0
  · rw [if_pos hu] at h
    obtain rfl := Option.some.inj h
    unfold bits_Sign0.f
    by_cases h1 : a1 < 1
    · rw [if_pos h1, signOf, if_pos (Or.inl h1)]
    · rw [if_neg h1]
      by_cases h2 : a1 ≥ 64
      · rw [if_pos h2, signOf, if_pos (Or.inr (by omega))]
      · obtain ⟨n, rfl⟩ : ∃ n : Nat, a1 = n := ⟨a1.toNat, by omega⟩
        have e : wrap64 (64 - (n : Int)) = ((64 - n : Nat) : Int) := by rw [I64.wrap_eq (by unfold I64; omega)]; omega
        rw [if_neg h2, e, if_pos (by omega), ← sign_shift a0 hu n (by omega) (by omega)]
        unfold shl shr
        rw [Int.toNat_natCast, Nat.min_eq_left (show 64 - n ≤ IntKind.u64.bits by show _ ≤ 64; omega), Nat.min_eq_left (show 64 - n ≤ IntKind.i64.bits by show _ ≤ 64; omega)]
  · rw [if_neg hu] at h; exact absurd h (by simp)
theorem bits_Sign.eq {a0 : Int} (h : U64 a0) (a1 : Int) : bits_Sign.f a0 a1 = some (signOf a0 a1) := if_pos h

theorem bits_Sign.calls (a0 : Int) (a1 : Int) (r : Int) (w : World) (h : bits_Sign.f a0 a1 = some r) :
    Calls Try.prog 14 #[.int .u64 a0, .int .i64 a1] w fun e w' => e = .returned (.int .u64 r) ∧ Drawn0 w w' := by
  have hk := bits_Sign.spec a0 a1 r h
  exact bits_Sign0.calls a0 a1 r w hk

/-! ### bits_is: function 29 -/
def bits_is.f (a0 : Int) (a1 : Int) : Option (Bool) := if a0 ≥ 0 then (if a0 < 64 then (some (decide (a1 ≥ 1))) else (some false)) else (some false)
set_option maxHeartbeats 8000000 in
set_option maxRecDepth 100000 in
theorem bits_is.calls (a0 : Int) (a1 : Int) (r : Bool) (w : World) (h : bits_is.f a0 a1 = some r) :
    Calls Try.prog 29 #[.int .i64 a0, .int .i64 a1] w fun e w' => e = .returned (.bool r) ∧ Drawn0 w w' := by
  have H : (if a0 ≥ 0 then (if a0 < 64 then (some (decide (a1 ≥ 1))) else (some false)) else (some false)) = some r := h
  clear h
  by_cases c3 : a0 ≥ 0
  · rw [if_pos c3] at H
    have c3b0 : decide (0 ≤ a0) = true := decide_eq_true c3
    clear c3
    by_cases c4 : a0 < 64
    · rw [if_pos c4] at H
      have c4b0 : decide (a0 < 64) = true := decide_eq_true c4
      clear c4
      obtain rfl := Option.some.inj H
      go_enter Try.func29, Try.ntmps29
      go_wp2
      go_ret
      exact ⟨by first | rfl | (simp; done) | (simp [*]; done), by repeat (first | exact Drawn0.refl _ | apply Drawn0.step)⟩
    · rw [if_neg c4] at H
      have c4b0 : decide (a0 < 64) = false := decide_eq_false c4
      clear c4
      obtain rfl := Option.some.inj H
      go_enter Try.func29, Try.ntmps29
      go_wp2
      go_ret
      exact ⟨by first | rfl | (simp; done) | (simp [*]; done), by repeat (first | exact Drawn0.refl _ | apply Drawn0.step)⟩
  · rw [if_neg c3] at H
    have c3b0 : decide (0 ≤ a0) = false := decide_eq_false c3
    clear c3
    obtain rfl := Option.some.inj H
    go_enter Try.func29, Try.ntmps29
    go_wp2
    go_ret
    exact ⟨by first | rfl | (simp; done) | (simp [*]; done), by repeat (first | exact Drawn0.refl _ | apply Drawn0.step)⟩

/-! ### bits_mask0: function 30 -/
def bits_mask0.f (a0 : Int) : Option (Int) := if a0 ≥ 64 then (some 18446744073709551615) else (if 0 ≤ a0 then (some (IntKind.u64.wrap ((shl .u64 1 a0) - 1))) else (none))
set_option maxHeartbeats 8000000 in
set_option maxRecDepth 100000 in
theorem bits_mask0.calls (a0 : Int) (r : Int) (w : World) (h : bits_mask0.f a0 = some r) :
    Calls Try.prog 30 #[.int .i64 a0] w fun e w' => e = .returned (.int .u64 r) ∧ Drawn0 w w' := by
  have H : (if a0 ≥ 64 then (some 18446744073709551615) else (if 0 ≤ a0 then (some (IntKind.u64.wrap ((shl .u64 1 a0) - 1))) else (none))) = some r := h
  clear h
  by_cases c2 : a0 ≥ 64
  · rw [if_pos c2] at H
    have c2b0 : decide (64 ≤ a0) = true := decide_eq_true c2
    clear c2
    obtain rfl := Option.some.inj H
    go_enter Try.func30, Try.ntmps30
    go_wp2
    go_ret
    exact ⟨by first | rfl | (simp; done) | (simp [*]; done), by repeat (first | exact Drawn0.refl _ | apply Drawn0.step)⟩
  · rw [if_neg c2] at H
    have c2b0 : decide (64 ≤ a0) = false := decide_eq_false c2
    clear c2
    by_cases c3 : 0 ≤ a0
    · rw [if_pos c3] at H
      have c3b0 := eq_true c3
      have c3b1 : decide (0 ≤ a0) = true := decide_eq_true c3
      clear c3
      obtain ⟨ji4, hji4⟩ : ∃ j_ : Int, (shl .u64 1 a0) = j_ := ⟨_, rfl⟩
      replace H : (some (IntKind.u64.wrap ((ji4) - 1))) = some r := by first | (rw [hji4] at H; exact H) | (simp only [hji4] at H ⊢; exact H)
      have hji4_ : (IntKind.u64.wrap (1 * 2 ^ min a0.toNat 64)) = ji4 := hji4
      have hji4z : a0 ≤ 64 → (IntKind.u64.wrap (1 * 2 ^ a0.toNat)) = ji4 := shl_small hji4
      have hji4u : (IntKind.u64.wrap (2 ^ min a0.toNat 64)) = ji4 := by have h_ := hji4_; rw [Int.one_mul] at h_; exact h_
      have hji4v : a0 ≤ 64 → (IntKind.u64.wrap (2 ^ a0.toNat)) = ji4 := fun hle_ => by have h_ := hji4z hle_; rw [Int.one_mul] at h_; exact h_
      obtain rfl := Option.some.inj H
      go_enter Try.func30, Try.ntmps30
      go_wp2
      go_ret
      exact ⟨by first | rfl | (simp; done) | (simp only [← hji4] <;> (first | rfl | simp)) | (simp [*]; done), by repeat (first | exact Drawn0.refl _ | apply Drawn0.step)⟩
    · rw [if_neg c3] at H
      exact absurd H (by simp)
def bits_mask.f (a0 : Int) : Option (Int) := if 1 ≤ a0 then some (2 ^ (min a0 64).toNat - 1) else none
theorem bits_mask.spec (a0 r : Int) (h : bits_mask.f a0 = some r) : bits_mask0.f a0 = some r := by
  unfold bits_mask.f at h
  by_cases hu : 1 ≤ a0
  · rw [if_pos hu] at h
    obtain rfl := Option.some.inj h
    unfold bits_mask0.f
    by_cases h2 : a0 ≥ 64
    · rw [if_pos h2, show (min a0 64).toNat = 64 from by omega]; rfl
    · have e : shl .u64 1 a0 = 2 ^ a0.toNat := by
        unfold shl
        rw [Nat.min_eq_left (show a0.toNat ≤ IntKind.u64.bits by show _ ≤ 64; omega), Int.one_mul, ipow]
        exact wrap_nat _ (Nat.pow_lt_pow_right (by decide) (by omega))
      have hp := ipos a0.toNat
      have hq : (2 : Int) ^ a0.toNat ≤ 2 ^ 63 := ipow_le _ _ (by omega)
      rw [if_neg h2, if_pos (by omega), e, show (min a0 64).toNat = a0.toNat from by omega, U64.wrap_eq (by unfold U64; omega)]
  · rw [if_neg hu] at h; exact absurd h (by simp)

theorem bits_mask.calls (a0 : Int) (r : Int) (w : World) (h : bits_mask.f a0 = some r) :
    Calls Try.prog 30 #[.int .i64 a0] w fun e w' => e = .returned (.int .u64 r) ∧ Drawn0 w w' := by
  have hk := bits_mask.spec a0 r h
  exact bits_mask0.calls a0 r w hk

end Go.Proofs.Ytlclelgcdainfaa.PAll
