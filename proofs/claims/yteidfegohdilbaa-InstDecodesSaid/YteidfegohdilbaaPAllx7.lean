/- DERIVED. The contracts of the Go functions that one law reaches: each call returns what the plain function beside it says, under that theorem's own premises. Written by a program (hp.py) over the kit's printed words. -/
import Derived.Test.YteidfegohdilbaaPAllx0
import Derived.Test.YteidfegohdilbaaPAllx6
namespace Go.Proofs.Yteidfegohdilbaa.PAll
open Go.RowKit Go.Proofs.YteidfegohdilbaaW.PrintWords Go.Proofs.YteidfegohdilbaaW.PrintLast Go.Proofs.YteidfegohdilbaaW.PrintMore Go.Proofs.Yteidfegohdilbaa.M
attribute [local go_sem] max2_int min2_int max_two min_two max_three min_three max_four min_four   -- for this text's walks alone
set_option linter.unusedVariables false
set_option linter.unusedSimpArgs false

/-! ### postbagref02_imm0: function 43 -/
def postbagref02_imm0.j0 : Nat → Int → Int → Bool → Option (Bool)
  | 0, _, _, _ => none
  | k + 1, x1, x5, x33 => if x33 = true then ((postbagref01_Fits.f x1 12).bind fun t160 => (some t160)) else (if x5 = 6 then (if x1 ≥ 0 then (some (decide (x1 ≤ 63))) else (some false)) else (if x5 = 7 then (if x1 ≥ 0 then (some (decide (x1 ≤ 31))) else (some false)) else (if x5 = 9 then (if x1 ≥ 0 then (some (decide (x1 ≤ 255))) else (some false)) else (some (x1 == 0)))))
def postbagref02_imm0.f (k : Nat) (a0 : Int) (a1 : Int) : Option (Bool) := if a0 = 1 then (if (Int.tmod a1 4096) = 0 then ((postbagref01_Fits.f a1 32).bind fun t157 => (some t157)) else (some false)) else (if a0 = 2 then (if (Int.tmod a1 2) = 0 then ((postbagref01_Fits.f a1 21).bind fun t158 => (some t158)) else (some false)) else (if a0 = 4 then (if (Int.tmod a1 2) = 0 then ((postbagref01_Fits.f a1 13).bind fun t159 => (some t159)) else (some false)) else (if a0 = 3 then (postbagref02_imm0.j0 k a1 a0 (a0 == 3)) else (postbagref02_imm0.j0 k a1 a0 (a0 == 5)))))
theorem postbagref02_imm0.mono_l : ∀ k, (∀ y0 y1 y2, LeO (postbagref02_imm0.j0 k y0 y1 y2) (postbagref02_imm0.j0 (k + 1) y0 y1 y2))
  | 0 => fun _ _ _ r h => by simp [postbagref02_imm0.j0] at h
  | k + 1 => by
    have ih0 := postbagref02_imm0.mono_l k
    · intro y0 y1 y2
      unfold postbagref02_imm0.j0
      repeat' first
      | (with_reducible exact ih0 _ _ _)
      | (with_reducible exact LeO.refl _)
      | (with_reducible exact LeO.none _)
      | (with_reducible refine LeO.ite ?_ ?_)
      | (with_reducible refine LeO.bind ?_ (fun _ => ?_))
      | exact ih0 _ _ _
      | exact LeO.none _
      | refine LeO.ite ?_ ?_
      | refine LeO.bind ?_ (fun _ => ?_)
theorem postbagref02_imm0.mono : ∀ a0 a1 k, LeO (postbagref02_imm0.f k a0 a1) (postbagref02_imm0.f (k + 1) a0 a1) := by
  intro a0 a1 k
  have ih0 := postbagref02_imm0.mono_l k
  unfold postbagref02_imm0.f
  repeat' first
      | (with_reducible exact ih0 _ _ _)
      | (with_reducible exact LeO.refl _)
      | (with_reducible exact LeO.none _)
      | (with_reducible refine LeO.ite ?_ ?_)
      | (with_reducible refine LeO.bind ?_ (fun _ => ?_))
      | exact ih0 _ _ _
      | exact LeO.none _
      | refine LeO.ite ?_ ?_
      | refine LeO.bind ?_ (fun _ => ?_)
set_option maxHeartbeats 8000000 in
set_option maxRecDepth 100000 in
theorem postbagref02_imm0.calls (k : Nat) (a0 : Int) (a1 : Int) (r : Bool) (w : World) (h : postbagref02_imm0.f k a0 a1 = some r) :
    Calls Try.prog 43 #[.int .i64 a0, .int .i64 a1] w fun e w' => e = .returned (.bool r) ∧ Drawn0 w w' := by
  have H : (if a0 = 1 then (if (Int.tmod a1 4096) = 0 then ((postbagref01_Fits.f a1 32).bind fun t157 => (some t157)) else (some false)) else (if a0 = 2 then (if (Int.tmod a1 2) = 0 then ((postbagref01_Fits.f a1 21).bind fun t158 => (some t158)) else (some false)) else (if a0 = 4 then (if (Int.tmod a1 2) = 0 then ((postbagref01_Fits.f a1 13).bind fun t159 => (some t159)) else (some false)) else (if a0 = 3 then (postbagref02_imm0.j0 k a1 a0 (a0 == 3)) else (postbagref02_imm0.j0 k a1 a0 (a0 == 5)))))) = some r := h
  clear h
  by_cases c3 : a0 = 1
  · rw [if_pos c3] at H
    have c3b0 : (a0 == 1) = true := beq_iff_eq.mpr c3
    have c3b1 : (a0 != 1) = false := bne_eq_false_iff_eq.mpr c3
    clear c3
    by_cases c4 : (Int.tmod a1 4096) = 0
    · rw [if_pos c4] at H
      have c4b0 : ((Int.tmod a1 4096) == 0) = true := beq_iff_eq.mpr c4
      have c4b1 : ((Int.tmod a1 4096) != 0) = false := bne_eq_false_iff_eq.mpr c4
      clear c4
      replace H := Option.bind_eq_some_iff.mp H
      obtain ⟨t157, A50, H⟩ := H
      replace H : (some t157) = some r := H
      have A5 := Aside0.mk A50
      clear A50
      obtain rfl := Option.some.inj H
      go_enter Try.func43, Try.ntmps43
      go_wp2_with (first | (go_at_call 52; (with_reducible refine (postbagref01_Fits.calls a1 32 t157 _ A5.out).mono ?_); rintro e w' ⟨rfl, ⟨nd, rfl⟩⟩))
      go_ret
      exact ⟨by first | rfl | (simp; done) | (simp [*]; done), by repeat (first | exact Drawn0.refl _ | apply Drawn0.step)⟩
    · rw [if_neg c4] at H
      have c4b0 : ((Int.tmod a1 4096) == 0) = false := beq_eq_false_iff_ne.mpr c4
      have c4b1 : ((Int.tmod a1 4096) != 0) = true := bne_iff_ne.mpr c4
      obtain rfl := Option.some.inj H
      go_enter Try.func43, Try.ntmps43
      go_wp2
      go_ret
      exact ⟨by first | rfl | (simp; done) | (simp [*]; done), by repeat (first | exact Drawn0.refl _ | apply Drawn0.step)⟩
  · rw [if_neg c3] at H
    have c3b0 : (a0 == 1) = false := beq_eq_false_iff_ne.mpr c3
    have c3b1 : (a0 != 1) = true := bne_iff_ne.mpr c3
    by_cases c6 : a0 = 2
    · rw [if_pos c6] at H
      have c6b0 : (a0 == 2) = true := beq_iff_eq.mpr c6
      have c6b1 : (a0 != 2) = false := bne_eq_false_iff_eq.mpr c6
      clear c6
      by_cases c7 : (Int.tmod a1 2) = 0
      · rw [if_pos c7] at H
        have c7b0 : ((Int.tmod a1 2) == 0) = true := beq_iff_eq.mpr c7
        have c7b1 : ((Int.tmod a1 2) != 0) = false := bne_eq_false_iff_eq.mpr c7
        clear c7
        replace H := Option.bind_eq_some_iff.mp H
        obtain ⟨t158, A80, H⟩ := H
        replace H : (some t158) = some r := H
        have A8 := Aside0.mk A80
        clear A80
        obtain rfl := Option.some.inj H
        go_enter Try.func43, Try.ntmps43
        go_wp2_with (first | (go_at_call 52; (with_reducible refine (postbagref01_Fits.calls a1 21 t158 _ A8.out).mono ?_); rintro e w' ⟨rfl, ⟨nd, rfl⟩⟩))
        go_ret
        exact ⟨by first | rfl | (simp; done) | (simp [*]; done), by repeat (first | exact Drawn0.refl _ | apply Drawn0.step)⟩
      · rw [if_neg c7] at H
        have c7b0 : ((Int.tmod a1 2) == 0) = false := beq_eq_false_iff_ne.mpr c7
        have c7b1 : ((Int.tmod a1 2) != 0) = true := bne_iff_ne.mpr c7
        obtain rfl := Option.some.inj H
        go_enter Try.func43, Try.ntmps43
        go_wp2
        go_ret
        exact ⟨by first | rfl | (simp; done) | (simp [*]; done), by repeat (first | exact Drawn0.refl _ | apply Drawn0.step)⟩
    · rw [if_neg c6] at H
      have c6b0 : (a0 == 2) = false := beq_eq_false_iff_ne.mpr c6
      have c6b1 : (a0 != 2) = true := bne_iff_ne.mpr c6
      by_cases c9 : a0 = 4
      · rw [if_pos c9] at H
        have c9b0 : (a0 == 4) = true := beq_iff_eq.mpr c9
        have c9b1 : (a0 != 4) = false := bne_eq_false_iff_eq.mpr c9
        clear c9
        by_cases c10 : (Int.tmod a1 2) = 0
        · rw [if_pos c10] at H
          have c10b0 : ((Int.tmod a1 2) == 0) = true := beq_iff_eq.mpr c10
          have c10b1 : ((Int.tmod a1 2) != 0) = false := bne_eq_false_iff_eq.mpr c10
          clear c10
          replace H := Option.bind_eq_some_iff.mp H
          obtain ⟨t159, A110, H⟩ := H
          replace H : (some t159) = some r := H
          have A11 := Aside0.mk A110
          clear A110
          obtain rfl := Option.some.inj H
          go_enter Try.func43, Try.ntmps43
          go_wp2_with (first | (go_at_call 52; (with_reducible refine (postbagref01_Fits.calls a1 13 t159 _ A11.out).mono ?_); rintro e w' ⟨rfl, ⟨nd, rfl⟩⟩))
          go_ret
          exact ⟨by first | rfl | (simp; done) | (simp [*]; done), by repeat (first | exact Drawn0.refl _ | apply Drawn0.step)⟩
        · rw [if_neg c10] at H
          have c10b0 : ((Int.tmod a1 2) == 0) = false := beq_eq_false_iff_ne.mpr c10
          have c10b1 : ((Int.tmod a1 2) != 0) = true := bne_iff_ne.mpr c10
          obtain rfl := Option.some.inj H
          go_enter Try.func43, Try.ntmps43
          go_wp2
          go_ret
          exact ⟨by first | rfl | (simp; done) | (simp [*]; done), by repeat (first | exact Drawn0.refl _ | apply Drawn0.step)⟩
      · rw [if_neg c9] at H
        have c9b0 : (a0 == 4) = false := beq_eq_false_iff_ne.mpr c9
        have c9b1 : (a0 != 4) = true := bne_iff_ne.mpr c9
        have HC12 := Aside0.mk H
        clear H
        go_enter Try.func43, Try.ntmps43
        go_upto_if 33 with (fail)
        go_cut [33] (fun v33 wc => ∃ (kq : Nat) (x33_11 : Bool), v33 = .bool x33_11 ∧ Aside0 (postbagref02_imm0.j0 kq a1 a0 x33_11 = some r) ∧ Aside0 (kq ≤ k) ∧ Drawn0 w wc)
        case first =>
          have H := HC12.out
          clear HC12
          by_cases c13 : a0 = 3
          · rw [if_pos c13] at H
            have c13b0 : (a0 == 3) = true := beq_iff_eq.mpr c13
            have c13b1 : (a0 != 3) = false := bne_eq_false_iff_eq.mpr c13
            clear c13
            (first | rw [c13b0] | (simp only [i64_w, i32_w]; rw [c13b0]) | skip)
            have H' := Aside0.mk H
            clear H
            go_wp2
            go_meet
            case rel => exact ⟨_, ((a0 == 3)), (by first | rfl | (simp; done) | (simp [*]; done)), H', ⟨by first | omega | exact Nat.le_refl _⟩, by repeat (first | exact Drawn0.refl _ | apply Drawn0.step)⟩
          · rw [if_neg c13] at H
            have c13b0 : (a0 == 3) = false := beq_eq_false_iff_ne.mpr c13
            have c13b1 : (a0 != 3) = true := bne_iff_ne.mpr c13
            (first | rw [c13b0] | (simp only [i64_w, i32_w]; rw [c13b0]) | skip)
            have H' := Aside0.mk H
            clear H
            go_wp2
            go_meet
            case rel => exact ⟨_, ((a0 == 5)), (by first | rfl | (simp; done) | (simp [*]; done)), H', ⟨by first | omega | exact Nat.le_refl _⟩, by repeat (first | exact Drawn0.refl _ | apply Drawn0.step)⟩
        case rest =>
          clear HC12
          try clear c1
          try clear p2
          try clear c3
          try clear c3b0
          try clear c3b1
          try clear c4
          try clear c4b0
          try clear c4b1
          try clear c6
          try clear c6b0
          try clear c6b1
          try clear c7
          try clear c7b0
          try clear c7b1
          try clear c9
          try clear c9b0
          try clear c9b1
          try clear c10
          try clear c10b0
          try clear c10b1
          try clear c13
          try clear c13b0
          try clear c13b1
          obtain ⟨kq, x33_11, rfl, HA, HJ11, ⟨mc11, rfl⟩⟩ := hcut
          cases kq with
          | zero => exact absurd HA.out (by simp [postbagref02_imm0.j0])
          | succ kj11 =>
            have H := HA.out
            clear HA
            simp only [postbagref02_imm0.j0] at H
            by_cases c14 : x33_11 = true
            · subst c14
              have H1 : ((postbagref01_Fits.f a1 12).bind fun t160 => (some t160)) = some r := by rw [if_pos rfl] at H; exact H
              clear H
              have H := H1
              clear H1
              replace H := Option.bind_eq_some_iff.mp H
              obtain ⟨t160, A150, H⟩ := H
              replace H : (some t160) = some r := H
              have A15 := Aside0.mk A150
              clear A150
              obtain rfl := Option.some.inj H
              go_wp2_with (first | ((with_reducible refine gate_callee (f := 52) rfl ?_); refine goesL_ (some 37) rfl rfl Try.func52 (by kernel_rfl) rfl #[.int .i64 a1, .int .i64 12] rfl (by (try simp only [List.map_toArray, List.map_cons, List.map_nil]); first | done | rfl | (simp only [List.length_drop, List.length_take]; rfl)) ?_; (with_reducible refine (postbagref01_Fits.calls a1 12 t160 _ A15.out).mono ?_); rintro e w' ⟨rfl, ⟨nd, rfl⟩⟩; refine ⟨_, rfl, ?_⟩))
              go_ret
              exact ⟨by first | rfl | (simp; done) | (simp [*]; done), by repeat (first | exact Drawn0.refl _ | apply Drawn0.step)⟩
            · replace c14 := Bool.eq_false_iff.mpr c14
              subst c14
              have H1 : (if a0 = 6 then (if a1 ≥ 0 then (some (decide (a1 ≤ 63))) else (some false)) else (if a0 = 7 then (if a1 ≥ 0 then (some (decide (a1 ≤ 31))) else (some false)) else (if a0 = 9 then (if a1 ≥ 0 then (some (decide (a1 ≤ 255))) else (some false)) else (some (a1 == 0))))) = some r := by rw [if_neg (show ¬ (false = true) by decide)] at H; exact H
              clear H
              have H := H1
              clear H1
              by_cases c16 : a0 = 6
              · rw [if_pos c16] at H
                have c16b0 : (a0 == 6) = true := beq_iff_eq.mpr c16
                have c16b1 : (a0 != 6) = false := bne_eq_false_iff_eq.mpr c16
                clear c16
                by_cases c17 : a1 ≥ 0
                · rw [if_pos c17] at H
                  have c17b0 : decide (0 ≤ a1) = true := decide_eq_true c17
                  clear c17
                  obtain rfl := Option.some.inj H
                  go_wp2
                  go_ret
                  exact ⟨by first | rfl | (simp; done) | (simp [*]; done), by repeat (first | exact Drawn0.refl _ | apply Drawn0.step)⟩
                · rw [if_neg c17] at H
                  have c17b0 : decide (0 ≤ a1) = false := decide_eq_false c17
                  clear c17
                  obtain rfl := Option.some.inj H
                  go_wp2
                  go_ret
                  exact ⟨by first | rfl | (simp; done) | (simp [*]; done), by repeat (first | exact Drawn0.refl _ | apply Drawn0.step)⟩
              · rw [if_neg c16] at H
                have c16b0 : (a0 == 6) = false := beq_eq_false_iff_ne.mpr c16
                have c16b1 : (a0 != 6) = true := bne_iff_ne.mpr c16
                by_cases c18 : a0 = 7
                · rw [if_pos c18] at H
                  have c18b0 : (a0 == 7) = true := beq_iff_eq.mpr c18
                  have c18b1 : (a0 != 7) = false := bne_eq_false_iff_eq.mpr c18
                  clear c18
                  by_cases c19 : a1 ≥ 0
                  · rw [if_pos c19] at H
                    have c19b0 : decide (0 ≤ a1) = true := decide_eq_true c19
                    clear c19
                    obtain rfl := Option.some.inj H
                    go_wp2
                    go_ret
                    exact ⟨by first | rfl | (simp; done) | (simp [*]; done), by repeat (first | exact Drawn0.refl _ | apply Drawn0.step)⟩
                  · rw [if_neg c19] at H
                    have c19b0 : decide (0 ≤ a1) = false := decide_eq_false c19
                    clear c19
                    obtain rfl := Option.some.inj H
                    go_wp2
                    go_ret
                    exact ⟨by first | rfl | (simp; done) | (simp [*]; done), by repeat (first | exact Drawn0.refl _ | apply Drawn0.step)⟩
                · rw [if_neg c18] at H
                  have c18b0 : (a0 == 7) = false := beq_eq_false_iff_ne.mpr c18
                  have c18b1 : (a0 != 7) = true := bne_iff_ne.mpr c18
                  by_cases c20 : a0 = 9
                  · rw [if_pos c20] at H
                    have c20b0 : (a0 == 9) = true := beq_iff_eq.mpr c20
                    have c20b1 : (a0 != 9) = false := bne_eq_false_iff_eq.mpr c20
                    clear c20
                    by_cases c21 : a1 ≥ 0
                    · rw [if_pos c21] at H
                      have c21b0 : decide (0 ≤ a1) = true := decide_eq_true c21
                      clear c21
                      obtain rfl := Option.some.inj H
                      go_wp2
                      go_ret
                      exact ⟨by first | rfl | (simp; done) | (simp [*]; done), by repeat (first | exact Drawn0.refl _ | apply Drawn0.step)⟩
                    · rw [if_neg c21] at H
                      have c21b0 : decide (0 ≤ a1) = false := decide_eq_false c21
                      clear c21
                      obtain rfl := Option.some.inj H
                      go_wp2
                      go_ret
                      exact ⟨by first | rfl | (simp; done) | (simp [*]; done), by repeat (first | exact Drawn0.refl _ | apply Drawn0.step)⟩
                  · rw [if_neg c20] at H
                    have c20b0 : (a0 == 9) = false := beq_eq_false_iff_ne.mpr c20
                    have c20b1 : (a0 != 9) = true := bne_iff_ne.mpr c20
                    obtain rfl := Option.some.inj H
                    go_wp2
                    go_ret
                    exact ⟨by first | rfl | (simp; done) | (simp [*]; done), by repeat (first | exact Drawn0.refl _ | apply Drawn0.step)⟩
def postbagref02_imm.f (a0 : Int) (a1 : Int) : Option (Bool) := if I64 a1 then some (immOf a0 a1) else none
theorem postbagref02_imm.spec (a0 a1 : Int) (r : Bool) (h : postbagref02_imm.f a0 a1 = some r) : ∃ k, postbagref02_imm0.f k a0 a1 = some r := by
  unfold postbagref02_imm.f at h
  by_cases hI : I64 a1
  · rw [if_pos hI] at h
    obtain rfl := Option.some.inj h
    refine ⟨1, ?_⟩
    unfold postbagref02_imm0.f
    simp only [postbagref02_imm0.j0, postbagref01_Fits.f, if_pos hI, Option.bind_some, tmod0, immOf, beq_iff_eq]
    repeat' split
    all_goals simp_all
    all_goals omega
  · rw [if_neg hI] at h; exact absurd h (by simp)

theorem postbagref02_imm.calls (a0 : Int) (a1 : Int) (r : Bool) (w : World) (h : postbagref02_imm.f a0 a1 = some r) :
    Calls Try.prog 43 #[.int .i64 a0, .int .i64 a1] w fun e w' => e = .returned (.bool r) ∧ Drawn0 w w' := by
  obtain ⟨k, hk⟩ := postbagref02_imm.spec a0 a1 r h
  exact postbagref02_imm0.calls k a0 a1 r w hk

/-! ### postbagref02_Good: function 13 -/
set_option maxHeartbeats 2000000 in
theorem postbagref02_Good.w (a0_0 a0_1 a0_2 a0_3 a0_4 f c x3 x7 : Int) (a0_5 a0_6 b1 b2 b3 b4 b5 p1 p3 p4 p5 p6 : Bool) (w : World)
    (hO : Hid (∀ W, Calls Try.prog 34 #[.int .i64 a0_0] W fun e w' => e = .returned (.agg #[.int .i64 f, .int .i64 c, .int .i64 x3, .int .i64 x7]) ∧ Below W.heap.size W w'))
    (hH : Hid (∀ W, Calls Try.prog 41 #[.int .i64 f] W fun e w' => e = .returned (.agg #[.bool b1, .bool b2, .bool b3, .bool b4, .bool b5]) ∧ Below W.heap.size W w'))
    (h3 : Hid (∀ W, Calls Try.prog 42 #[.int .i64 a0_1, .bool b1] W fun e w' => e = .returned (.bool p3) ∧ Drawn0 W w'))
    (h4 : Hid (∀ W, Calls Try.prog 42 #[.int .i64 a0_2, .bool b2] W fun e w' => e = .returned (.bool p4) ∧ Drawn0 W w'))
    (h5 : Hid (∀ W, Calls Try.prog 42 #[.int .i64 a0_3, .bool b3] W fun e w' => e = .returned (.bool p5) ∧ Drawn0 W w'))
    (h6 : Hid (∀ W, Calls Try.prog 43 #[.int .i64 f, .int .i64 a0_4] W fun e w' => e = .returned (.bool p6) ∧ Drawn0 W w'))
    (q1 : Hid ((f == 0) = !p1)) :
    Calls Try.prog 13 #[.agg #[.int .i64 a0_0, .int .i64 a0_1, .int .i64 a0_2, .int .i64 a0_3, .int .i64 a0_4, .bool a0_5, .bool a0_6]] w fun e w' => e = .returned (.bool (p1 && (p3 && (p4 && (p5 && (p6 && (b5 || (!a0_5 && !a0_6)))))))) ∧ Below w.heap.size w w' := by
  have cs : p1 = false ∨ p1 = true ∧ p3 = false ∨ p1 = true ∧ p3 = true ∧ p4 = false ∨ p1 = true ∧ p3 = true ∧ p4 = true ∧ p5 = false ∨ p1 = true ∧ p3 = true ∧ p4 = true ∧ p5 = true ∧ p6 = false ∨ p1 = true ∧ p3 = true ∧ p4 = true ∧ p5 = true ∧ p6 = true := by
    cases p1 <;> cases p3 <;> cases p4 <;> cases p5 <;> cases p6 <;> simp
  have hix : ∀ (x0 x1 x2 x3 : Value) (W : World), (Instr.index 56 (.agg #[x0, x1, x2, x3]) (.int .i64 0)).run Try.prog W = .ok x0 W := fun _ _ _ _ _ => by kernel_rfl
  rcases cs with rfl | ⟨rfl, rfl⟩ | ⟨rfl, rfl, rfl⟩ | ⟨rfl, rfl, rfl, rfl⟩ | ⟨rfl, rfl, rfl, rfl, rfl⟩ | ⟨rfl, rfl, rfl, rfl, rfl⟩
  all_goals (
    go_enter Try.func13, Try.ntmps13
    go_wp2_with fail
    refine (hO.out _).mono ?_
    rintro e w1 ⟨rfl, hb⟩
    have B1 := (Blk.new w _ _).below hb
    have hb := Lib.hid ((((Below.refl w.heap.size w).alloc (Nat.le_refl _) _).trans (hb.mono (by simp))))
    go_wp2_with fail
    refine (hH.out _).mono ?_
    rintro e w2 ⟨rfl, hb2⟩
    replace B1 := B1.below hb2
    replace hb := Lib.hid (hb.out.trans (hb2.mono hb.out.size))
    clear hb2
    have c1 := B1.cell
    have l1 := B1.lt
    have B1 := Lib.hid B1
    have q1 := q1.out
    have q1 : (f == 0) = _ := q1
    simp only [Bool.not_false, Bool.not_true] at q1
    go_wp2_with (first | (go_at_call 43; refine (h6.out _).mono ?_; rintro e w3 ⟨rfl, ⟨nd, rfl⟩⟩) | (go_at_call 42; (with_reducible first | refine (h3.out _).mono ?_ | refine (h4.out _).mono ?_ | refine (h5.out _).mono ?_); rintro e w3 ⟨rfl, ⟨nd, rfl⟩⟩))
    all_goals (
      go_ret
      have hb := hb.out
      refine ⟨by simp [*], ?_⟩
      repeat (first | exact hb | apply below_drewN | apply Below.alloc _ hb.size)))
def postbagref02_Good.f (a0_0 : Int) (a0_1 : Int) (a0_2 : Int) (a0_3 : Int) (a0_4 : Int) (a0_5 : Bool) (a0_6 : Bool) : Option (Bool) := if I64 a0_4 then some (goodOf a0_0 a0_1 a0_2 a0_3 a0_4 a0_5 a0_6) else none
theorem postbagref02_Good.calls (a0_0 : Int) (a0_1 : Int) (a0_2 : Int) (a0_3 : Int) (a0_4 : Int) (a0_5 : Bool) (a0_6 : Bool) (r : Bool) (w : World) (h : postbagref02_Good.f a0_0 a0_1 a0_2 a0_3 a0_4 a0_5 a0_6 = some r) :
    Calls Try.prog 13 #[.agg #[.int .i64 a0_0, .int .i64 a0_1, .int .i64 a0_2, .int .i64 a0_3, .int .i64 a0_4, .bool a0_5, .bool a0_6]] w fun e w' => e = .returned (.bool r) ∧ Below w.heap.size w w' := by
  unfold postbagref02_Good.f at h
  by_cases hI : I64 a0_4
  case neg => rw [if_neg hI] at h; simp at h
  rw [if_pos hI] at h
  obtain rfl := Option.some.inj h
  have hn := (nums_range a0_0).1
  refine (postbagref02_Good.w a0_0 a0_1 a0_2 a0_3 a0_4 (formOf a0_0) (codeOf a0_0) (f3Of a0_0) (f7Of a0_0) a0_5 a0_6 (hasRd (formOf a0_0)) (hasRs1 (formOf a0_0)) (hasRs2 (formOf a0_0)) (hasImm (formOf a0_0)) (hasAq (formOf a0_0)) (decide (0 < formOf a0_0)) _ _ _ _ w
    (fun W => postbagref02_Row.c a0_0 W) (fun W => postbagref02_has.c (formOf a0_0) W) (fun W => postbagref02_register.calls _ _ _ W rfl) (fun W => postbagref02_register.calls _ _ _ W rfl) (fun W => postbagref02_register.calls _ _ _ W rfl)
    (fun W => postbagref02_imm.calls _ _ _ W (by unfold postbagref02_imm.f; rw [if_pos hI]))
    (by
      show (formOf a0_0 == 0) = !decide (0 < formOf a0_0)
      by_cases e : formOf a0_0 = 0
      · rw [e]; rfl
      · rw [show decide (0 < formOf a0_0) = true from decide_eq_true (by omega)]; simpa using e)).mono ?_
  rintro e w' ⟨rfl, hb⟩
  exact ⟨rfl, hb⟩


/-! ### postbagref01_Place0: function 49 -/
mutual
def postbagref01_Place0.j0 : Nat → Int → Int → Int → Int → Bool → Option (Int)
  | 0, _, _, _, _, _ => none
  | k + 1, x0, x1, x2, x3, x19 => if x19 = true then (some x0) else (postbagref01_Place0.l0 k x0 x1 x2 x3 0)
def postbagref01_Place0.l0 : Nat → Int → Int → Int → Int → Int → Option (Int)
  | 0, _, _, _, _, _ => none
  | k + 1, x0, x1, x2, x3, x9 => if x9 < x2 then (postbagref01_Place0.j2 k x0 x1 x2 x3 x9 (decide (x9 < (wrap64 (64 - x1))))) else (postbagref01_Place0.j2 k x0 x1 x2 x3 x9 false)
def postbagref01_Place0.j2 : Nat → Int → Int → Int → Int → Int → Bool → Option (Int)
  | 0, _, _, _, _, _, _ => none
  | k + 1, x0, x1, x2, x3, x9, x29 => if x29 = true then ((postbagref01_Bit.f x0 (wrap64 (x1 + x9))).bind fun t161 => ((postbagref01_power.f (wrap64 (x1 + x9))).bind fun t162 => ((postbagref01_Bit.f x3 x9).bind fun t163 => ((postbagref01_power.f (wrap64 (x1 + x9))).bind fun t164 => (postbagref01_Place0.l0 k (IntKind.u64.wrap ((IntKind.u64.wrap (x0 - (IntKind.u64.wrap (t161 * t162)))) + (IntKind.u64.wrap (t163 * t164)))) x1 x2 x3 (wrap64 (x9 + 1))))))) else (some x0)
end
def postbagref01_Place0.f (k : Nat) (a0 : Int) (a1 : Int) (a2 : Int) (a3 : Int) : Option (Int) := if a1 < 0 then (postbagref01_Place0.j0 k a0 a1 a2 a3 true) else (if a1 > 63 then (postbagref01_Place0.j0 k a0 a1 a2 a3 true) else (postbagref01_Place0.j0 k a0 a1 a2 a3 (decide (a2 < 1))))
theorem postbagref01_Place0.mono_l : ∀ k, (∀ y0 y1 y2 y3 y4, LeO (postbagref01_Place0.j0 k y0 y1 y2 y3 y4) (postbagref01_Place0.j0 (k + 1) y0 y1 y2 y3 y4)) ∧ (∀ y0 y1 y2 y3 y4, LeO (postbagref01_Place0.l0 k y0 y1 y2 y3 y4) (postbagref01_Place0.l0 (k + 1) y0 y1 y2 y3 y4)) ∧ (∀ y0 y1 y2 y3 y4 y5, LeO (postbagref01_Place0.j2 k y0 y1 y2 y3 y4 y5) (postbagref01_Place0.j2 (k + 1) y0 y1 y2 y3 y4 y5))
  | 0 => ⟨fun _ _ _ _ _ r h => by simp [postbagref01_Place0.j0] at h, fun _ _ _ _ _ r h => by simp [postbagref01_Place0.l0] at h, fun _ _ _ _ _ _ r h => by simp [postbagref01_Place0.j2] at h⟩
  | k + 1 => by
    obtain ⟨ih0, ih1, ih2⟩ := postbagref01_Place0.mono_l k
    refine ⟨?_, ?_, ?_⟩
    · intro y0 y1 y2 y3 y4
      unfold postbagref01_Place0.j0
      repeat' first
      | (with_reducible exact ih0 _ _ _ _ _)
      | (with_reducible exact ih1 _ _ _ _ _)
      | (with_reducible exact ih2 _ _ _ _ _ _)
      | (with_reducible exact LeO.refl _)
      | (with_reducible exact LeO.none _)
      | (with_reducible refine LeO.ite ?_ ?_)
      | (with_reducible refine LeO.bind ?_ (fun _ => ?_))
      | exact ih0 _ _ _ _ _
      | exact ih1 _ _ _ _ _
      | exact ih2 _ _ _ _ _ _
      | exact LeO.none _
      | refine LeO.ite ?_ ?_
      | refine LeO.bind ?_ (fun _ => ?_)
    · intro y0 y1 y2 y3 y4
      unfold postbagref01_Place0.l0
      repeat' first
      | (with_reducible exact ih0 _ _ _ _ _)
      | (with_reducible exact ih1 _ _ _ _ _)
      | (with_reducible exact ih2 _ _ _ _ _ _)
      | (with_reducible exact LeO.refl _)
      | (with_reducible exact LeO.none _)
      | (with_reducible refine LeO.ite ?_ ?_)
      | (with_reducible refine LeO.bind ?_ (fun _ => ?_))
      | exact ih0 _ _ _ _ _
      | exact ih1 _ _ _ _ _
      | exact ih2 _ _ _ _ _ _
      | exact LeO.none _
      | refine LeO.ite ?_ ?_
      | refine LeO.bind ?_ (fun _ => ?_)
    · intro y0 y1 y2 y3 y4 y5
      unfold postbagref01_Place0.j2
      repeat' first
      | (with_reducible exact ih0 _ _ _ _ _)
      | (with_reducible exact ih1 _ _ _ _ _)
      | (with_reducible exact ih2 _ _ _ _ _ _)
      | (with_reducible exact LeO.refl _)
      | (with_reducible exact LeO.none _)
      | (with_reducible refine LeO.ite ?_ ?_)
      | (with_reducible refine LeO.bind ?_ (fun _ => ?_))
      | exact ih0 _ _ _ _ _
      | exact ih1 _ _ _ _ _
      | exact ih2 _ _ _ _ _ _
      | exact LeO.none _
      | refine LeO.ite ?_ ?_
      | refine LeO.bind ?_ (fun _ => ?_)
theorem postbagref01_Place0.mono : ∀ a0 a1 a2 a3 k, LeO (postbagref01_Place0.f k a0 a1 a2 a3) (postbagref01_Place0.f (k + 1) a0 a1 a2 a3) := by
  intro a0 a1 a2 a3 k
  obtain ⟨ih0, ih1, ih2⟩ := postbagref01_Place0.mono_l k
  unfold postbagref01_Place0.f
  repeat' first
      | (with_reducible exact ih0 _ _ _ _ _)
      | (with_reducible exact ih1 _ _ _ _ _)
      | (with_reducible exact ih2 _ _ _ _ _ _)
      | (with_reducible exact LeO.refl _)
      | (with_reducible exact LeO.none _)
      | (with_reducible refine LeO.ite ?_ ?_)
      | (with_reducible refine LeO.bind ?_ (fun _ => ?_))
      | exact ih0 _ _ _ _ _
      | exact ih1 _ _ _ _ _
      | exact ih2 _ _ _ _ _ _
      | exact LeO.none _
      | refine LeO.ite ?_ ?_
      | refine LeO.bind ?_ (fun _ => ?_)
set_option maxHeartbeats 8000000 in
set_option maxRecDepth 100000 in
theorem postbagref01_Place0.calls (k : Nat) (a0 : Int) (a1 : Int) (a2 : Int) (a3 : Int) (r : Int) (w : World) (h : postbagref01_Place0.f k a0 a1 a2 a3 = some r) :
    Calls Try.prog 49 #[.int .u64 a0, .int .i64 a1, .int .i64 a2, .int .u64 a3] w fun e w' => e = .returned (.int .u64 r) ∧ Drawn0 w w' := by
  have H : (if a1 < 0 then (postbagref01_Place0.j0 k a0 a1 a2 a3 true) else (if a1 > 63 then (postbagref01_Place0.j0 k a0 a1 a2 a3 true) else (postbagref01_Place0.j0 k a0 a1 a2 a3 (decide (a2 < 1))))) = some r := h
  clear h
  have HC5 := Aside0.mk H
  clear H
  go_enter Try.func49, Try.ntmps49
  go_upto_region 1 with (fail)
  go_cut [19] (fun v19 wc => ∃ (kq : Nat) (x19_4 : Bool), v19 = .bool x19_4 ∧ Aside0 (postbagref01_Place0.j0 kq a0 a1 a2 a3 x19_4 = some r) ∧ Aside0 (kq ≤ k) ∧ Drawn0 w wc)
  case first =>
    have H := HC5.out
    clear HC5
    by_cases c6 : a1 < 0
    · rw [if_pos c6] at H
      have c6b0 : decide (a1 < 0) = true := decide_eq_true c6
      clear c6
      (first | rw [c6b0] | (simp only [i64_w, i32_w]; rw [c6b0]) | skip)
      have H' := Aside0.mk H
      clear H
      go_wp2
      go_meet
      case rel => exact ⟨_, (true), (by first | rfl | (simp; done) | (simp [*]; done)), H', ⟨by first | omega | exact Nat.le_refl _⟩, by repeat (first | exact Drawn0.refl _ | apply Drawn0.step)⟩
    · rw [if_neg c6] at H
      have c6b0 : decide (a1 < 0) = false := decide_eq_false c6
      clear c6
      (first | rw [c6b0] | (simp only [i64_w, i32_w]; rw [c6b0]) | skip)
      by_cases c7 : a1 > 63
      · rw [if_pos c7] at H
        have c7b0 : decide (63 < a1) = true := decide_eq_true c7
        clear c7
        have H' := Aside0.mk H
        clear H
        go_wp2
        go_meet
        case rel => exact ⟨_, (true), (by first | rfl | (simp; done) | (simp [*]; done)), H', ⟨by first | omega | exact Nat.le_refl _⟩, by repeat (first | exact Drawn0.refl _ | apply Drawn0.step)⟩
      · rw [if_neg c7] at H
        have c7b0 : decide (63 < a1) = false := decide_eq_false c7
        clear c7
        have H' := Aside0.mk H
        clear H
        go_wp2
        go_meet
        case rel => exact ⟨_, (decide (a2 < 1)), (by first | rfl | (simp; done) | (simp [*]; done)), H', ⟨by first | omega | exact Nat.le_refl _⟩, by repeat (first | exact Drawn0.refl _ | apply Drawn0.step)⟩
  case rest =>
    clear HC5
    try clear p2
    try clear c4
    try clear c6
    try clear c6b0
    try clear c7
    try clear c7b0
    obtain ⟨kq, x19_4, rfl, HA, HJ4, ⟨mc4, rfl⟩⟩ := hcut
    cases kq with
    | zero => exact absurd HA.out (by simp [postbagref01_Place0.j0])
    | succ kj4 =>
      have H := HA.out
      clear HA
      simp only [postbagref01_Place0.j0] at H
      by_cases c8 : x19_4 = true
      · subst c8
        have H1 : (some a0) = some r := by rw [if_pos rfl] at H; exact H
        clear H
        have H := H1
        clear H1
        obtain rfl := Option.some.inj H
        go_wp2
        go_ret
        exact ⟨by first | rfl | (simp; done) | (simp [*]; done), by repeat (first | exact Drawn0.refl _ | apply Drawn0.step)⟩
      · replace c8 := Bool.eq_false_iff.mpr c8
        subst c8
        have H1 : (postbagref01_Place0.l0 kj4 a0 a1 a2 a3 0) = some r := by rw [if_neg (show ¬ (false = true) by decide)] at H; exact H
        clear H
        have H := H1
        clear H1
        have H' := Aside0.mk H
        clear H
        go_wp2
        go_loopg [0, 9] kj4 (fun kq v0 v9 w' => ∃ (x0_2 : Int) (x9_2 : Int), v0 = .int .u64 x0_2 ∧ v9 = .int .i64 x9_2 ∧ Aside0 (postbagref01_Place0.l0 kq x0_2 a1 a2 a3 x9_2 = some r) ∧ Aside0 (kq ≤ kj4) ∧ Drawn0 w w')
        case atStart => exact ⟨(a0), (0), (by first | rfl | (simp; done) | (simp [*]; done)), (by first | rfl | (simp; done) | (simp [*]; done)), H', ⟨Nat.le_refl _⟩, by repeat (first | exact Drawn0.refl _ | apply Drawn0.step)⟩
        case round =>
          clear H'
          try clear p2
          try clear c4
          try clear c6
          try clear c6b0
          try clear c7
          try clear c7b0
          try clear c8
          try clear p2
          obtain ⟨x0_2, x9_2, rfl, rfl, HA, HK2, ⟨m2, rfl⟩⟩ := hrel
          cases gk with
          | zero => exact absurd HA.out (by simp [postbagref01_Place0.l0])
          | succ k2 =>
            have H := HA.out
            clear HA
            simp only [postbagref01_Place0.l0] at H
            have HC9 := Aside0.mk H
            clear H
            go_upto_region 4 with (fail)
            go_cut [29] (fun v29 wc => ∃ (kq : Nat) (x29_8 : Bool), v29 = .bool x29_8 ∧ Aside0 (postbagref01_Place0.j2 kq x0_2 a1 a2 a3 x9_2 x29_8 = some r) ∧ Aside0 (kq ≤ k2) ∧ Drawn0 w wc)
            case first =>
              have H := HC9.out
              clear HC9
              by_cases c10 : x9_2 < a2
              · rw [if_pos c10] at H
                have c10b0 : decide (x9_2 < a2) = true := decide_eq_true c10
                clear c10
                (first | rw [c10b0] | (simp only [i64_w, i32_w]; rw [c10b0]) | skip)
                have H' := Aside0.mk H
                clear H
                go_wp2
                go_meet
                case rel => exact ⟨_, (decide (x9_2 < (wrap64 (64 - a1)))), (by first | rfl | (simp; done) | (simp [*]; done)), H', ⟨by have := HJ4.out; have := HK2.out; first | omega | exact Nat.le_refl _⟩, by repeat (first | exact Drawn0.refl _ | apply Drawn0.step)⟩
              · rw [if_neg c10] at H
                have c10b0 : decide (x9_2 < a2) = false := decide_eq_false c10
                clear c10
                (first | rw [c10b0] | (simp only [i64_w, i32_w]; rw [c10b0]) | skip)
                have H' := Aside0.mk H
                clear H
                go_wp2
                go_meet
                case rel => exact ⟨_, (false), (by first | rfl | (simp; done) | (simp [*]; done)), H', ⟨by have := HJ4.out; have := HK2.out; first | omega | exact Nat.le_refl _⟩, by repeat (first | exact Drawn0.refl _ | apply Drawn0.step)⟩
            case rest =>
              clear HC9
              try clear c1
              try clear p2
              try clear c4
              try clear c6
              try clear c6b0
              try clear p6
              try clear c7
              try clear c7b0
              try clear c8
              try clear c10
              try clear c10b0
              try clear p2
              obtain ⟨kq, x29_8, rfl, HA, HJ8, ⟨mc8, rfl⟩⟩ := hcut
              cases kq with
              | zero => exact absurd HA.out (by simp [postbagref01_Place0.j2])
              | succ kj8 =>
                have H := HA.out
                clear HA
                simp only [postbagref01_Place0.j2] at H
                by_cases c11 : x29_8 = true
                · subst c11
                  have H1 : ((postbagref01_Bit.f x0_2 (wrap64 (a1 + x9_2))).bind fun t161 => ((postbagref01_power.f (wrap64 (a1 + x9_2))).bind fun t162 => ((postbagref01_Bit.f a3 x9_2).bind fun t163 => ((postbagref01_power.f (wrap64 (a1 + x9_2))).bind fun t164 => (postbagref01_Place0.l0 kj8 (IntKind.u64.wrap ((IntKind.u64.wrap (x0_2 - (IntKind.u64.wrap (t161 * t162)))) + (IntKind.u64.wrap (t163 * t164)))) a1 a2 a3 (wrap64 (x9_2 + 1))))))) = some r := by rw [if_pos rfl] at H; exact H
                  clear H
                  have H := H1
                  clear H1
                  replace H := Option.bind_eq_some_iff.mp H
                  obtain ⟨t161, A120, H⟩ := H
                  replace H : ((postbagref01_power.f (wrap64 (a1 + x9_2))).bind fun t162 => ((postbagref01_Bit.f a3 x9_2).bind fun t163 => ((postbagref01_power.f (wrap64 (a1 + x9_2))).bind fun t164 => (postbagref01_Place0.l0 kj8 (IntKind.u64.wrap ((IntKind.u64.wrap (x0_2 - (IntKind.u64.wrap (t161 * t162)))) + (IntKind.u64.wrap (t163 * t164)))) a1 a2 a3 (wrap64 (x9_2 + 1)))))) = some r := H
                  have A12 := Aside0.mk A120
                  clear A120
                  replace H := Option.bind_eq_some_iff.mp H
                  obtain ⟨t162, A130, H⟩ := H
                  replace H : ((postbagref01_Bit.f a3 x9_2).bind fun t163 => ((postbagref01_power.f (wrap64 (a1 + x9_2))).bind fun t164 => (postbagref01_Place0.l0 kj8 (IntKind.u64.wrap ((IntKind.u64.wrap (x0_2 - (IntKind.u64.wrap (t161 * t162)))) + (IntKind.u64.wrap (t163 * t164)))) a1 a2 a3 (wrap64 (x9_2 + 1))))) = some r := H
                  have A13 := Aside0.mk A130
                  clear A130
                  replace H := Option.bind_eq_some_iff.mp H
                  obtain ⟨t163, A140, H⟩ := H
                  replace H : ((postbagref01_power.f (wrap64 (a1 + x9_2))).bind fun t164 => (postbagref01_Place0.l0 kj8 (IntKind.u64.wrap ((IntKind.u64.wrap (x0_2 - (IntKind.u64.wrap (t161 * t162)))) + (IntKind.u64.wrap (t163 * t164)))) a1 a2 a3 (wrap64 (x9_2 + 1)))) = some r := H
                  have A14 := Aside0.mk A140
                  clear A140
                  replace H := Option.bind_eq_some_iff.mp H
                  obtain ⟨t164, A150, H⟩ := H
                  replace H : (postbagref01_Place0.l0 kj8 (IntKind.u64.wrap ((IntKind.u64.wrap (x0_2 - (IntKind.u64.wrap (t161 * t162)))) + (IntKind.u64.wrap (t163 * t164)))) a1 a2 a3 (wrap64 (x9_2 + 1))) = some r := H
                  have A15 := Aside0.mk A150
                  clear A150
                  have H' := Aside0.mk H
                  clear H
                  go_wp2_with (first | ((with_reducible refine gate_callee (f := 59) rfl ?_); refine goesL_ (some 37) rfl rfl Try.func59 (by kernel_rfl) rfl #[.int .u64 x0_2, .int .i64 (wrap64 (a1 + x9_2))] rfl (by (try simp only [List.map_toArray, List.map_cons, List.map_nil]); first | done | rfl | (simp only [List.length_drop, List.length_take]; rfl)) ?_; (with_reducible refine (postbagref01_Bit.calls x0_2 (wrap64 (a1 + x9_2)) t161 _ A12.out).mono ?_); rintro e w' ⟨rfl, ⟨nd, rfl⟩⟩; refine ⟨_, rfl, ?_⟩) | ((with_reducible refine gate_callee (f := 60) rfl ?_); refine goesL_ (some 41) rfl rfl Try.func60 (by kernel_rfl) rfl #[.int .i64 (wrap64 (a1 + x9_2))] rfl (by (try simp only [List.map_toArray, List.map_cons, List.map_nil]); first | done | rfl | (simp only [List.length_drop, List.length_take]; rfl)) ?_; (with_reducible refine (postbagref01_power.calls (wrap64 (a1 + x9_2)) t162 _ A13.out).mono ?_); rintro e w' ⟨rfl, ⟨nd, rfl⟩⟩; refine ⟨_, rfl, ?_⟩) | ((with_reducible refine gate_callee (f := 59) rfl ?_); refine goesL_ (some 46) rfl rfl Try.func59 (by kernel_rfl) rfl #[.int .u64 a3, .int .i64 x9_2] rfl (by (try simp only [List.map_toArray, List.map_cons, List.map_nil]); first | done | rfl | (simp only [List.length_drop, List.length_take]; rfl)) ?_; (with_reducible refine (postbagref01_Bit.calls a3 x9_2 t163 _ A14.out).mono ?_); rintro e w' ⟨rfl, ⟨nd, rfl⟩⟩; refine ⟨_, rfl, ?_⟩) | ((with_reducible refine gate_callee (f := 60) rfl ?_); refine goesL_ (some 50) rfl rfl Try.func60 (by kernel_rfl) rfl #[.int .i64 (wrap64 (a1 + x9_2))] rfl (by (try simp only [List.map_toArray, List.map_cons, List.map_nil]); first | done | rfl | (simp only [List.length_drop, List.length_take]; rfl)) ?_; (with_reducible refine (postbagref01_power.calls (wrap64 (a1 + x9_2)) t164 _ A15.out).mono ?_); rintro e w' ⟨rfl, ⟨nd, rfl⟩⟩; refine ⟨_, rfl, ?_⟩))
                  go_roundg kj8
                  case measure => have := HJ4.out; have := HK2.out; have := HJ8.out; omega
                  case rel => exact ⟨(IntKind.u64.wrap ((IntKind.u64.wrap (x0_2 - (IntKind.u64.wrap (t161 * t162)))) + (IntKind.u64.wrap (t163 * t164)))), (wrap64 (x9_2 + 1)), (by first | rfl | (simp; done) | (simp [*]; done)), (by first | rfl | (simp; done) | (simp [*]; done)), H', ⟨by have := HJ4.out; have := HK2.out; have := HJ8.out; omega⟩, by repeat (first | exact Drawn0.refl _ | apply Drawn0.step)⟩
                · replace c11 := Bool.eq_false_iff.mpr c11
                  subst c11
                  have H1 : (some x0_2) = some r := by rw [if_neg (show ¬ (false = true) by decide)] at H; exact H
                  clear H
                  have H := H1
                  clear H1
                  obtain rfl := Option.some.inj H
                  go_wp2
                  go_ret
                  exact ⟨by first | rfl | (simp; done) | (simp [*]; done), by repeat (first | exact Drawn0.refl _ | apply Drawn0.step)⟩
def postbagref01_Place.f (a0 : Int) (a1 : Int) (a2 : Int) (a3 : Int) : Option (Int) := if U64 a0 ∧ U64 a3 then some (placeOf a0 a1 a2 a3) else none
theorem postbagref01_Place.loop (X L M V : Nat) (hX : X < 2 ^ 64) (hV : V < 2 ^ 64) (hL : L ≤ 63) (d : Nat) : ∀ (k i : Nat), i + d = min M (64 - L) → 2 * d + 1 < k →
    postbagref01_Place0.l0 k ((place X L i V : Nat) : Int) L M V i = some ((place X L (min M (64 - L)) V : Nat) : Int) := by
  induction d with
  | zero =>
    intro k i hi hk
    obtain ⟨k, rfl⟩ : ∃ m, k = m + 2 := ⟨k - 2, by omega⟩
    simp only [postbagref01_Place0.l0]
    have : postbagref01_Place0.j2 (k + 1) ((place X L i V : Nat) : Int) L M V i false = some ((place X L (min M (64 - L)) V : Nat) : Int) := by
      simp only [postbagref01_Place0.j2]; rw [if_neg (by decide), ← hi]; rfl
    by_cases hM : (i : Int) < M
    · rw [if_pos hM, I64.wrap_eq (by unfold I64; omega), decide_eq_false (by omega)]; exact this
    · rw [if_neg hM]; exact this
  | succ d ih =>
    intro k i hi hk
    obtain ⟨k, rfl⟩ : ∃ m, k = m + 2 := ⟨k - 2, by omega⟩
    simp only [postbagref01_Place0.l0]
    rw [if_pos (by omega), I64.wrap_eq (by unfold I64; omega), decide_eq_true (by omega)]
    simp only [postbagref01_Place0.j2]
    have hY : place X L i V < 2 ^ 64 := place_lt X L i V hX (by omega)
    have hZ : place X L (i + 1) V < 2 ^ 64 := place_lt X L (i + 1) V hX (by omega)
    rw [if_pos trivial, I64.wrap_eq (show I64 ((L : Int) + i) by unfold I64; omega), I64.wrap_eq (show I64 ((i : Int) + 1) by unfold I64; omega), postbagref01_Bit.eq (U64.mk hY), postbagref01_Bit.eq (U64.mk hV)]
    simp only [Option.bind_some, postbagref01_power.f]
    rw [show ((L : Int) + i) = ((L + i : Nat) : Int) from by omega, bit_nat _ _ (show L + i < 64 by omega), bit_nat _ _ (show i < 64 by omega)]
    have e2 : powOf ((L + i : Nat) : Int) = ((2 ^ (L + i) : Nat) : Int) := by unfold powOf; rw [if_neg (by omega), if_neg (by omega), Int.toNat_natCast, ipow]
    have hp : 2 ^ (L + i) < 2 ^ 64 := Nat.pow_lt_pow_right (by decide) (by omega)
    have hb : ∀ c : Bool, IntKind.u64.wrap (((c.toNat : Nat) : Int) * ((2 ^ (L + i) : Nat) : Int)) = ((c.toNat * 2 ^ (L + i) : Nat) : Int) := by
      intro c; rw [← Int.natCast_mul]; refine wrap_nat _ ?_; cases c <;> simp <;> omega
    have hle : ((place X L i V).testBit (L + i)).toNat * 2 ^ (L + i) ≤ place X L i V := by
      cases ht : (place X L i V).testBit (L + i)
      · simp
      · have := Nat.ge_two_pow_of_testBit ht; simpa using this
    have hps := put_bit (place X L i V) (L + i) (V.testBit i)
    rw [place_succ] at hps
    rw [e2, hb, hb, ← Int.natCast_sub hle, wrap_nat _ (by omega), ← Int.natCast_add, hps, wrap_nat _ hZ, show ((i : Int) + 1) = ((i + 1 : Nat) : Int) from by omega]
    exact ih k (i + 1) (by omega) (by omega)
theorem postbagref01_Place.spec (a0 a1 a2 a3 r : Int) (h : postbagref01_Place.f a0 a1 a2 a3 = some r) : ∃ k, postbagref01_Place0.f k a0 a1 a2 a3 = some r := by
  unfold postbagref01_Place.f at h
  by_cases hu : U64 a0 ∧ U64 a3
  · rw [if_pos hu] at h
    obtain rfl := Option.some.inj h
    refine ⟨133, ?_⟩
    unfold postbagref01_Place0.f
    by_cases h1 : a1 < 0
    · rw [if_pos h1]; simp only [postbagref01_Place0.j0, if_true, placeOf]; rw [if_pos (Or.inl h1)]
    · rw [if_neg h1]
      by_cases h2 : a1 > 63
      · rw [if_pos h2]; simp only [postbagref01_Place0.j0, if_true, placeOf]; rw [if_pos (Or.inr (Or.inl h2))]
      · rw [if_neg h2]
        by_cases h3 : a2 < 1
        · rw [decide_eq_true h3]; simp only [postbagref01_Place0.j0, if_true, placeOf]; rw [if_pos (Or.inr (Or.inr h3))]
        · rw [decide_eq_false h3]
          simp only [postbagref01_Place0.j0]
          obtain ⟨X, rfl, hX⟩ := hu.1.nat
          obtain ⟨V, rfl, hV⟩ := hu.2.nat
          obtain ⟨L, rfl⟩ : ∃ L : Nat, a1 = L := ⟨a1.toNat, by omega⟩
          obtain ⟨M, rfl⟩ : ∃ M : Nat, a2 = M := ⟨a2.toNat, by omega⟩
          have h := postbagref01_Place.loop X L M V hX hV (by omega) (min M (64 - L)) 132 0 (by omega) (by omega)
          rw [if_neg (by decide), place_nat X L M V (by omega) (by omega)]
          rw [place_zero] at h
          exact h
  · rw [if_neg hu] at h; exact absurd h (by simp)


theorem postbagref01_Place.calls (a0 : Int) (a1 : Int) (a2 : Int) (a3 : Int) (r : Int) (w : World) (h : postbagref01_Place.f a0 a1 a2 a3 = some r) :
    Calls Try.prog 49 #[.int .u64 a0, .int .i64 a1, .int .i64 a2, .int .u64 a3] w fun e w' => e = .returned (.int .u64 r) ∧ Drawn0 w w' := by
  obtain ⟨k, hk⟩ := postbagref01_Place.spec a0 a1 a2 a3 r h
  exact postbagref01_Place0.calls k a0 a1 a2 a3 r w hk

end Go.Proofs.Yteidfegohdilbaa.PAll
