/- DERIVED. The contracts of the Go functions that one law reaches: each call returns what the plain function beside it says, under that theorem's own premises. Written by a program (hp.py) over the kit's printed words. -/
import Derived.Test.YteidfegohdilbaaPInstTellsx0
import Derived.Test.YteidfegohdilbaaPInstTellsx3
import Derived.Test.YteidfegohdilbaaPInstTellsx7
namespace Go.Proofs.Yteidfegohdilbaa.PInstTells
open Go.RowKit Go.Proofs.YteidfegohdilbaaW.PrintWords Go.Proofs.YteidfegohdilbaaW.PrintLast Go.Proofs.YteidfegohdilbaaW.PrintMore Go.Proofs.Yteidfegohdilbaa.M
attribute [local go_sem] max2_int min2_int max_two min_two max_three min_three max_four min_four   -- for this text's walks alone
set_option linter.unusedVariables false
set_option linter.unusedSimpArgs false

/-! ### postbagref02_Size0: function 24 -/
mutual
def postbagref02_Size0.j0 : Nat → Int → Int → Bool → Option (Int)
  | 0, _, _, _ => none
  | k + 1, x0, x3, x4 => if x4 = true then (some 1) else (if x3 = 12 then (postbagref02_Size0.j1 k x0 x3 (x3 == 12)) else (if x3 = 16 then (postbagref02_Size0.j1 k x0 x3 (x3 == 16)) else (postbagref02_Size0.j1 k x0 x3 (x3 == 19))))
def postbagref02_Size0.j1 : Nat → Int → Int → Bool → Option (Int)
  | 0, _, _, _ => none
  | k + 1, x0, x3, x8 => if x8 = true then (some 2) else (if x3 = 13 then (postbagref02_Size0.j2 k x0 x3 (x3 == 13)) else (if x3 = 17 then (postbagref02_Size0.j2 k x0 x3 (x3 == 17)) else (postbagref02_Size0.j2 k x0 x3 (x3 == 20))))
def postbagref02_Size0.j2 : Nat → Int → Int → Bool → Option (Int)
  | 0, _, _, _ => none
  | k + 1, x0, x3, x12 => if x12 = true then (some 4) else (if x3 = 14 then (some 8) else (if x3 = 21 then (some 8) else ((postbagref02_Atomic.f x0).bind fun t192 => (if t192 = true then (postbagref02_Size0.j3 k x0 (decide (x0 < 77))) else (postbagref02_Size0.j3 k x0 false)))))
def postbagref02_Size0.j3 : Nat → Int → Bool → Option (Int)
  | 0, _, _ => none
  | k + 1, x0, x24 => if x24 = true then (some 4) else ((postbagref02_Atomic.f x0).bind fun t193 => (if t193 = true then (some 8) else (some 0)))
end
def postbagref02_Size0.f (k : Nat) (a0 : Int) : Option (Int) := if a0 = 11 then (postbagref02_Size0.j0 k a0 a0 (a0 == 11)) else (if a0 = 15 then (postbagref02_Size0.j0 k a0 a0 (a0 == 15)) else (postbagref02_Size0.j0 k a0 a0 (a0 == 18)))
theorem postbagref02_Size0.mono_l : ∀ k, (∀ y0 y1 y2, LeO (postbagref02_Size0.j0 k y0 y1 y2) (postbagref02_Size0.j0 (k + 1) y0 y1 y2)) ∧ (∀ y0 y1 y2, LeO (postbagref02_Size0.j1 k y0 y1 y2) (postbagref02_Size0.j1 (k + 1) y0 y1 y2)) ∧ (∀ y0 y1 y2, LeO (postbagref02_Size0.j2 k y0 y1 y2) (postbagref02_Size0.j2 (k + 1) y0 y1 y2)) ∧ (∀ y0 y1, LeO (postbagref02_Size0.j3 k y0 y1) (postbagref02_Size0.j3 (k + 1) y0 y1))
  | 0 => ⟨fun _ _ _ r h => by simp [postbagref02_Size0.j0] at h, fun _ _ _ r h => by simp [postbagref02_Size0.j1] at h, fun _ _ _ r h => by simp [postbagref02_Size0.j2] at h, fun _ _ r h => by simp [postbagref02_Size0.j3] at h⟩
  | k + 1 => by
    obtain ⟨ih0, ih1, ih2, ih3⟩ := postbagref02_Size0.mono_l k
    refine ⟨?_, ?_, ?_, ?_⟩
    · intro y0 y1 y2
      unfold postbagref02_Size0.j0
      repeat' first
      | (with_reducible exact ih0 _ _ _)
      | (with_reducible exact ih1 _ _ _)
      | (with_reducible exact ih2 _ _ _)
      | (with_reducible exact ih3 _ _)
      | (with_reducible exact LeO.refl _)
      | (with_reducible exact LeO.none _)
      | (with_reducible refine LeO.ite ?_ ?_)
      | (with_reducible refine LeO.bind ?_ (fun _ => ?_))
      | exact ih0 _ _ _
      | exact ih1 _ _ _
      | exact ih2 _ _ _
      | exact ih3 _ _
      | exact LeO.none _
      | refine LeO.ite ?_ ?_
      | refine LeO.bind ?_ (fun _ => ?_)
    · intro y0 y1 y2
      unfold postbagref02_Size0.j1
      repeat' first
      | (with_reducible exact ih0 _ _ _)
      | (with_reducible exact ih1 _ _ _)
      | (with_reducible exact ih2 _ _ _)
      | (with_reducible exact ih3 _ _)
      | (with_reducible exact LeO.refl _)
      | (with_reducible exact LeO.none _)
      | (with_reducible refine LeO.ite ?_ ?_)
      | (with_reducible refine LeO.bind ?_ (fun _ => ?_))
      | exact ih0 _ _ _
      | exact ih1 _ _ _
      | exact ih2 _ _ _
      | exact ih3 _ _
      | exact LeO.none _
      | refine LeO.ite ?_ ?_
      | refine LeO.bind ?_ (fun _ => ?_)
    · intro y0 y1 y2
      unfold postbagref02_Size0.j2
      repeat' first
      | (with_reducible exact ih0 _ _ _)
      | (with_reducible exact ih1 _ _ _)
      | (with_reducible exact ih2 _ _ _)
      | (with_reducible exact ih3 _ _)
      | (with_reducible exact LeO.refl _)
      | (with_reducible exact LeO.none _)
      | (with_reducible refine LeO.ite ?_ ?_)
      | (with_reducible refine LeO.bind ?_ (fun _ => ?_))
      | exact ih0 _ _ _
      | exact ih1 _ _ _
      | exact ih2 _ _ _
      | exact ih3 _ _
      | exact LeO.none _
      | refine LeO.ite ?_ ?_
      | refine LeO.bind ?_ (fun _ => ?_)
    · intro y0 y1
      unfold postbagref02_Size0.j3
      repeat' first
      | (with_reducible exact ih0 _ _ _)
      | (with_reducible exact ih1 _ _ _)
      | (with_reducible exact ih2 _ _ _)
      | (with_reducible exact ih3 _ _)
      | (with_reducible exact LeO.refl _)
      | (with_reducible exact LeO.none _)
      | (with_reducible refine LeO.ite ?_ ?_)
      | (with_reducible refine LeO.bind ?_ (fun _ => ?_))
      | exact ih0 _ _ _
      | exact ih1 _ _ _
      | exact ih2 _ _ _
      | exact ih3 _ _
      | exact LeO.none _
      | refine LeO.ite ?_ ?_
      | refine LeO.bind ?_ (fun _ => ?_)
theorem postbagref02_Size0.mono : ∀ a0 k, LeO (postbagref02_Size0.f k a0) (postbagref02_Size0.f (k + 1) a0) := by
  intro a0 k
  obtain ⟨ih0, ih1, ih2, ih3⟩ := postbagref02_Size0.mono_l k
  unfold postbagref02_Size0.f
  repeat' first
      | (with_reducible exact ih0 _ _ _)
      | (with_reducible exact ih1 _ _ _)
      | (with_reducible exact ih2 _ _ _)
      | (with_reducible exact ih3 _ _)
      | (with_reducible exact LeO.refl _)
      | (with_reducible exact LeO.none _)
      | (with_reducible refine LeO.ite ?_ ?_)
      | (with_reducible refine LeO.bind ?_ (fun _ => ?_))
      | exact ih0 _ _ _
      | exact ih1 _ _ _
      | exact ih2 _ _ _
      | exact ih3 _ _
      | exact LeO.none _
      | refine LeO.ite ?_ ?_
      | refine LeO.bind ?_ (fun _ => ?_)
set_option maxHeartbeats 8000000 in
set_option maxRecDepth 100000 in
theorem postbagref02_Size0.calls (k : Nat) (a0 : Int) (r : Int) (w : World) (h : postbagref02_Size0.f k a0 = some r) :
    Calls Try.prog 24 #[.int .i64 a0] w fun e w' => e = .returned (.int .i64 r) ∧ Drawn0 w w' := by
  have H : (if a0 = 11 then (postbagref02_Size0.j0 k a0 a0 (a0 == 11)) else (if a0 = 15 then (postbagref02_Size0.j0 k a0 a0 (a0 == 15)) else (postbagref02_Size0.j0 k a0 a0 (a0 == 18)))) = some r := h
  clear h
  have HC2 := Aside0.mk H
  clear H
  go_enter Try.func24, Try.ntmps24
  go_upto_if 4 with (fail)
  go_cut [4] (fun v4 wc => ∃ (kq : Nat) (x4_1 : Bool), v4 = .bool x4_1 ∧ Aside0 (postbagref02_Size0.j0 kq a0 a0 x4_1 = some r) ∧ Aside0 (kq ≤ k) ∧ Drawn0 w wc)
  case first =>
    have H := HC2.out
    clear HC2
    by_cases c3 : a0 = 11
    · rw [if_pos c3] at H
      have c3b0 : (a0 == 11) = true := beq_iff_eq.mpr c3
      have c3b1 : (a0 != 11) = false := bne_eq_false_iff_eq.mpr c3
      clear c3
      (first | rw [c3b0] | (simp only [i64_w, i32_w]; rw [c3b0]) | skip)
      have H' := Aside0.mk H
      clear H
      go_wp2
      go_meet
      case rel => exact ⟨_, ((a0 == 11)), (by first | rfl | (simp; done) | (simp [*]; done)), H', ⟨by first | omega | exact Nat.le_refl _⟩, by repeat (first | exact Drawn0.refl _ | apply Drawn0.step)⟩
    · rw [if_neg c3] at H
      have c3b0 : (a0 == 11) = false := beq_eq_false_iff_ne.mpr c3
      have c3b1 : (a0 != 11) = true := bne_iff_ne.mpr c3
      (first | rw [c3b0] | (simp only [i64_w, i32_w]; rw [c3b0]) | skip)
      by_cases c4 : a0 = 15
      · rw [if_pos c4] at H
        have c4b0 : (a0 == 15) = true := beq_iff_eq.mpr c4
        have c4b1 : (a0 != 15) = false := bne_eq_false_iff_eq.mpr c4
        clear c4
        have H' := Aside0.mk H
        clear H
        go_wp2
        go_meet
        case rel => exact ⟨_, ((a0 == 15)), (by first | rfl | (simp; done) | (simp [*]; done)), H', ⟨by first | omega | exact Nat.le_refl _⟩, by repeat (first | exact Drawn0.refl _ | apply Drawn0.step)⟩
      · rw [if_neg c4] at H
        have c4b0 : (a0 == 15) = false := beq_eq_false_iff_ne.mpr c4
        have c4b1 : (a0 != 15) = true := bne_iff_ne.mpr c4
        have H' := Aside0.mk H
        clear H
        go_wp2
        go_meet
        case rel => exact ⟨_, ((a0 == 18)), (by first | rfl | (simp; done) | (simp [*]; done)), H', ⟨by first | omega | exact Nat.le_refl _⟩, by repeat (first | exact Drawn0.refl _ | apply Drawn0.step)⟩
  case rest =>
    clear HC2
    try clear c2
    try clear p2
    try clear c3
    try clear c3b0
    try clear c3b1
    try clear c4
    try clear c4b0
    try clear c4b1
    obtain ⟨kq, x4_1, rfl, HA, HJ1, ⟨mc1, rfl⟩⟩ := hcut
    cases kq with
    | zero => exact absurd HA.out (by simp [postbagref02_Size0.j0])
    | succ kj1 =>
      have H := HA.out
      clear HA
      simp only [postbagref02_Size0.j0] at H
      by_cases c5 : x4_1 = true
      · subst c5
        have H1 : (some 1) = some r := by rw [if_pos rfl] at H; exact H
        clear H
        have H := H1
        clear H1
        obtain rfl := Option.some.inj H
        go_wp2
        go_ret
        exact ⟨by first | rfl | (simp; done) | (simp [*]; done), by repeat (first | exact Drawn0.refl _ | apply Drawn0.step)⟩
      · replace c5 := Bool.eq_false_iff.mpr c5
        subst c5
        have H1 : (if a0 = 12 then (postbagref02_Size0.j1 kj1 a0 a0 (a0 == 12)) else (if a0 = 16 then (postbagref02_Size0.j1 kj1 a0 a0 (a0 == 16)) else (postbagref02_Size0.j1 kj1 a0 a0 (a0 == 19)))) = some r := by rw [if_neg (show ¬ (false = true) by decide)] at H; exact H
        clear H
        have H := H1
        clear H1
        have HC6 := Aside0.mk H
        clear H
        go_upto_if 8 with (fail)
        go_cut [8] (fun v8 wc => ∃ (kq : Nat) (x8_5 : Bool), v8 = .bool x8_5 ∧ Aside0 (postbagref02_Size0.j1 kq a0 a0 x8_5 = some r) ∧ Aside0 (kq ≤ kj1) ∧ Drawn0 w wc)
        case first =>
          have H := HC6.out
          clear HC6
          by_cases c7 : a0 = 12
          · rw [if_pos c7] at H
            have c7b0 : (a0 == 12) = true := beq_iff_eq.mpr c7
            have c7b1 : (a0 != 12) = false := bne_eq_false_iff_eq.mpr c7
            clear c7
            (first | rw [c7b0] | (simp only [i64_w, i32_w]; rw [c7b0]) | skip)
            have H' := Aside0.mk H
            clear H
            go_wp2
            go_meet
            case rel => exact ⟨_, ((a0 == 12)), (by first | rfl | (simp; done) | (simp [*]; done)), H', ⟨by have := HJ1.out; first | omega | exact Nat.le_refl _⟩, by repeat (first | exact Drawn0.refl _ | apply Drawn0.step)⟩
          · rw [if_neg c7] at H
            have c7b0 : (a0 == 12) = false := beq_eq_false_iff_ne.mpr c7
            have c7b1 : (a0 != 12) = true := bne_iff_ne.mpr c7
            (first | rw [c7b0] | (simp only [i64_w, i32_w]; rw [c7b0]) | skip)
            by_cases c8 : a0 = 16
            · rw [if_pos c8] at H
              have c8b0 : (a0 == 16) = true := beq_iff_eq.mpr c8
              have c8b1 : (a0 != 16) = false := bne_eq_false_iff_eq.mpr c8
              clear c8
              have H' := Aside0.mk H
              clear H
              go_wp2
              go_meet
              case rel => exact ⟨_, ((a0 == 16)), (by first | rfl | (simp; done) | (simp [*]; done)), H', ⟨by have := HJ1.out; first | omega | exact Nat.le_refl _⟩, by repeat (first | exact Drawn0.refl _ | apply Drawn0.step)⟩
            · rw [if_neg c8] at H
              have c8b0 : (a0 == 16) = false := beq_eq_false_iff_ne.mpr c8
              have c8b1 : (a0 != 16) = true := bne_iff_ne.mpr c8
              have H' := Aside0.mk H
              clear H
              go_wp2
              go_meet
              case rel => exact ⟨_, ((a0 == 19)), (by first | rfl | (simp; done) | (simp [*]; done)), H', ⟨by have := HJ1.out; first | omega | exact Nat.le_refl _⟩, by repeat (first | exact Drawn0.refl _ | apply Drawn0.step)⟩
        case rest =>
          clear HC6
          try clear c1
          try clear c2
          try clear p2
          try clear c3
          try clear c3b0
          try clear c3b1
          try clear c4
          try clear c4b0
          try clear c4b1
          try clear c5
          try clear c7
          try clear c7b0
          try clear c7b1
          try clear c8
          try clear c8b0
          try clear c8b1
          try clear p2
          obtain ⟨kq, x8_5, rfl, HA, HJ5, ⟨mc5, rfl⟩⟩ := hcut
          cases kq with
          | zero => exact absurd HA.out (by simp [postbagref02_Size0.j1])
          | succ kj5 =>
            have H := HA.out
            clear HA
            simp only [postbagref02_Size0.j1] at H
            by_cases c9 : x8_5 = true
            · subst c9
              have H1 : (some 2) = some r := by rw [if_pos rfl] at H; exact H
              clear H
              have H := H1
              clear H1
              obtain rfl := Option.some.inj H
              go_wp2
              go_ret
              exact ⟨by first | rfl | (simp; done) | (simp [*]; done), by repeat (first | exact Drawn0.refl _ | apply Drawn0.step)⟩
            · replace c9 := Bool.eq_false_iff.mpr c9
              subst c9
              have H1 : (if a0 = 13 then (postbagref02_Size0.j2 kj5 a0 a0 (a0 == 13)) else (if a0 = 17 then (postbagref02_Size0.j2 kj5 a0 a0 (a0 == 17)) else (postbagref02_Size0.j2 kj5 a0 a0 (a0 == 20)))) = some r := by rw [if_neg (show ¬ (false = true) by decide)] at H; exact H
              clear H
              have H := H1
              clear H1
              have HC10 := Aside0.mk H
              clear H
              go_upto_if 12 with (fail)
              go_cut [12] (fun v12 wc => ∃ (kq : Nat) (x12_9 : Bool), v12 = .bool x12_9 ∧ Aside0 (postbagref02_Size0.j2 kq a0 a0 x12_9 = some r) ∧ Aside0 (kq ≤ kj5) ∧ Drawn0 w wc)
              case first =>
                have H := HC10.out
                clear HC10
                by_cases c11 : a0 = 13
                · rw [if_pos c11] at H
                  have c11b0 : (a0 == 13) = true := beq_iff_eq.mpr c11
                  have c11b1 : (a0 != 13) = false := bne_eq_false_iff_eq.mpr c11
                  clear c11
                  (first | rw [c11b0] | (simp only [i64_w, i32_w]; rw [c11b0]) | skip)
                  have H' := Aside0.mk H
                  clear H
                  go_wp2
                  go_meet
                  case rel => exact ⟨_, ((a0 == 13)), (by first | rfl | (simp; done) | (simp [*]; done)), H', ⟨by have := HJ1.out; have := HJ5.out; first | omega | exact Nat.le_refl _⟩, by repeat (first | exact Drawn0.refl _ | apply Drawn0.step)⟩
                · rw [if_neg c11] at H
                  have c11b0 : (a0 == 13) = false := beq_eq_false_iff_ne.mpr c11
                  have c11b1 : (a0 != 13) = true := bne_iff_ne.mpr c11
                  (first | rw [c11b0] | (simp only [i64_w, i32_w]; rw [c11b0]) | skip)
                  by_cases c12 : a0 = 17
                  · rw [if_pos c12] at H
                    have c12b0 : (a0 == 17) = true := beq_iff_eq.mpr c12
                    have c12b1 : (a0 != 17) = false := bne_eq_false_iff_eq.mpr c12
                    clear c12
                    have H' := Aside0.mk H
                    clear H
                    go_wp2
                    go_meet
                    case rel => exact ⟨_, ((a0 == 17)), (by first | rfl | (simp; done) | (simp [*]; done)), H', ⟨by have := HJ1.out; have := HJ5.out; first | omega | exact Nat.le_refl _⟩, by repeat (first | exact Drawn0.refl _ | apply Drawn0.step)⟩
                  · rw [if_neg c12] at H
                    have c12b0 : (a0 == 17) = false := beq_eq_false_iff_ne.mpr c12
                    have c12b1 : (a0 != 17) = true := bne_iff_ne.mpr c12
                    have H' := Aside0.mk H
                    clear H
                    go_wp2
                    go_meet
                    case rel => exact ⟨_, ((a0 == 20)), (by first | rfl | (simp; done) | (simp [*]; done)), H', ⟨by have := HJ1.out; have := HJ5.out; first | omega | exact Nat.le_refl _⟩, by repeat (first | exact Drawn0.refl _ | apply Drawn0.step)⟩
              case rest =>
                clear HC10
                try clear c1
                try clear c2
                try clear p2
                try clear c3
                try clear c3b0
                try clear c3b1
                try clear c4
                try clear c4b0
                try clear c4b1
                try clear c5
                try clear c7
                try clear c7b0
                try clear c7b1
                try clear c8
                try clear c8b0
                try clear c8b1
                try clear c9
                try clear c11
                try clear c11b0
                try clear c11b1
                try clear c12
                try clear c12b0
                try clear c12b1
                try clear p2
                obtain ⟨kq, x12_9, rfl, HA, HJ9, ⟨mc9, rfl⟩⟩ := hcut
                cases kq with
                | zero => exact absurd HA.out (by simp [postbagref02_Size0.j2])
                | succ kj9 =>
                  have H := HA.out
                  clear HA
                  simp only [postbagref02_Size0.j2] at H
                  by_cases c13 : x12_9 = true
                  · subst c13
                    have H1 : (some 4) = some r := by rw [if_pos rfl] at H; exact H
                    clear H
                    have H := H1
                    clear H1
                    obtain rfl := Option.some.inj H
                    go_wp2
                    go_ret
                    exact ⟨by first | rfl | (simp; done) | (simp [*]; done), by repeat (first | exact Drawn0.refl _ | apply Drawn0.step)⟩
                  · replace c13 := Bool.eq_false_iff.mpr c13
                    subst c13
                    have H1 : (if a0 = 14 then (some 8) else (if a0 = 21 then (some 8) else ((postbagref02_Atomic.f a0).bind fun t192 => (if t192 = true then (postbagref02_Size0.j3 kj9 a0 (decide (a0 < 77))) else (postbagref02_Size0.j3 kj9 a0 false))))) = some r := by rw [if_neg (show ¬ (false = true) by decide)] at H; exact H
                    clear H
                    have H := H1
                    clear H1
                    by_cases c14 : a0 = 14
                    · rw [if_pos c14] at H
                      have c14b0 : (a0 == 14) = true := beq_iff_eq.mpr c14
                      have c14b1 : (a0 != 14) = false := bne_eq_false_iff_eq.mpr c14
                      clear c14
                      obtain rfl := Option.some.inj H
                      go_wp2
                      go_ret
                      exact ⟨by first | rfl | (simp; done) | (simp [*]; done), by repeat (first | exact Drawn0.refl _ | apply Drawn0.step)⟩
                    · rw [if_neg c14] at H
                      have c14b0 : (a0 == 14) = false := beq_eq_false_iff_ne.mpr c14
                      have c14b1 : (a0 != 14) = true := bne_iff_ne.mpr c14
                      by_cases c15 : a0 = 21
                      · rw [if_pos c15] at H
                        have c15b0 : (a0 == 21) = true := beq_iff_eq.mpr c15
                        have c15b1 : (a0 != 21) = false := bne_eq_false_iff_eq.mpr c15
                        clear c15
                        obtain rfl := Option.some.inj H
                        go_wp2
                        go_ret
                        exact ⟨by first | rfl | (simp; done) | (simp [*]; done), by repeat (first | exact Drawn0.refl _ | apply Drawn0.step)⟩
                      · rw [if_neg c15] at H
                        have c15b0 : (a0 == 21) = false := beq_eq_false_iff_ne.mpr c15
                        have c15b1 : (a0 != 21) = true := bne_iff_ne.mpr c15
                        have HC16 := Aside0.mk H
                        clear H
                        go_upto_region 17 with (fail)
                        go_cut [24] (fun v24 wc => ∃ (kq : Nat) (x24_15 : Bool), v24 = .bool x24_15 ∧ Aside0 (postbagref02_Size0.j3 kq a0 x24_15 = some r) ∧ Aside0 (kq ≤ kj9) ∧ Drawn0 w wc)
                        case first =>
                          have H := HC16.out
                          clear HC16
                          replace H := Option.bind_eq_some_iff.mp H
                          obtain ⟨t192, A170, H⟩ := H
                          replace H : (if t192 = true then (postbagref02_Size0.j3 kj9 a0 (decide (a0 < 77))) else (postbagref02_Size0.j3 kj9 a0 false)) = some r := H
                          have A17 := Aside0.mk A170
                          clear A170
                          by_cases c18 : t192 = true
                          · subst c18
                            have H1 : (postbagref02_Size0.j3 kj9 a0 (decide (a0 < 77))) = some r := by rw [if_pos rfl] at H; exact H
                            clear H
                            have H := H1
                            clear H1
                            have H' := Aside0.mk H
                            clear H
                            go_wp2_with (first | ((with_reducible refine gate_callee (f := 22) rfl ?_); refine goesL_ (some 20) rfl rfl Try.func22 (by kernel_rfl) rfl #[.int .i64 a0] rfl (by (try simp only [List.map_toArray, List.map_cons, List.map_nil]); first | done | rfl | (simp only [List.length_drop, List.length_take]; rfl)) ?_; (with_reducible refine (postbagref02_Atomic.calls a0 true _ A17.out).mono ?_); rintro e w' ⟨rfl, ⟨nd, rfl⟩⟩; refine ⟨_, rfl, ?_⟩))
                            go_meet
                            case rel => exact ⟨_, (decide (a0 < 77)), (by first | rfl | (simp; done) | (simp [*]; done)), H', ⟨by have := HJ1.out; have := HJ5.out; have := HJ9.out; first | omega | exact Nat.le_refl _⟩, by repeat (first | exact Drawn0.refl _ | apply Drawn0.step)⟩
                          · replace c18 := Bool.eq_false_iff.mpr c18
                            subst c18
                            have H1 : (postbagref02_Size0.j3 kj9 a0 false) = some r := by rw [if_neg (show ¬ (false = true) by decide)] at H; exact H
                            clear H
                            have H := H1
                            clear H1
                            have H' := Aside0.mk H
                            clear H
                            go_wp2_with (first | ((with_reducible refine gate_callee (f := 22) rfl ?_); refine goesL_ (some 20) rfl rfl Try.func22 (by kernel_rfl) rfl #[.int .i64 a0] rfl (by (try simp only [List.map_toArray, List.map_cons, List.map_nil]); first | done | rfl | (simp only [List.length_drop, List.length_take]; rfl)) ?_; (with_reducible refine (postbagref02_Atomic.calls a0 false _ A17.out).mono ?_); rintro e w' ⟨rfl, ⟨nd, rfl⟩⟩; refine ⟨_, rfl, ?_⟩))
                            go_meet
                            case rel => exact ⟨_, (false), (by first | rfl | (simp; done) | (simp [*]; done)), H', ⟨by have := HJ1.out; have := HJ5.out; have := HJ9.out; first | omega | exact Nat.le_refl _⟩, by repeat (first | exact Drawn0.refl _ | apply Drawn0.step)⟩
                        case rest =>
                          clear HC16
                          try clear c1
                          try clear c2
                          try clear p2
                          try clear c3
                          try clear c3b0
                          try clear c3b1
                          try clear c4
                          try clear c4b0
                          try clear c4b1
                          try clear c5
                          try clear c7
                          try clear c7b0
                          try clear c7b1
                          try clear c8
                          try clear c8b0
                          try clear c8b1
                          try clear c9
                          try clear c11
                          try clear c11b0
                          try clear c11b1
                          try clear c12
                          try clear c12b0
                          try clear c12b1
                          try clear c13
                          try clear c14
                          try clear c14b0
                          try clear c14b1
                          try clear c15
                          try clear c15b0
                          try clear c15b1
                          try clear c18
                          try clear p2
                          obtain ⟨kq, x24_15, rfl, HA, HJ15, ⟨mc15, rfl⟩⟩ := hcut
                          cases kq with
                          | zero => exact absurd HA.out (by simp [postbagref02_Size0.j3])
                          | succ kj15 =>
                            have H := HA.out
                            clear HA
                            simp only [postbagref02_Size0.j3] at H
                            by_cases c19 : x24_15 = true
                            · subst c19
                              have H1 : (some 4) = some r := by rw [if_pos rfl] at H; exact H
                              clear H
                              have H := H1
                              clear H1
                              obtain rfl := Option.some.inj H
                              go_wp2
                              go_ret
                              exact ⟨by first | rfl | (simp; done) | (simp [*]; done), by repeat (first | exact Drawn0.refl _ | apply Drawn0.step)⟩
                            · replace c19 := Bool.eq_false_iff.mpr c19
                              subst c19
                              have H1 : ((postbagref02_Atomic.f a0).bind fun t193 => (if t193 = true then (some 8) else (some 0))) = some r := by rw [if_neg (show ¬ (false = true) by decide)] at H; exact H
                              clear H
                              have H := H1
                              clear H1
                              replace H := Option.bind_eq_some_iff.mp H
                              obtain ⟨t193, A200, H⟩ := H
                              replace H : (if t193 = true then (some 8) else (some 0)) = some r := H
                              have A20 := Aside0.mk A200
                              clear A200
                              by_cases c21 : t193 = true
                              · subst c21
                                have H1 : (some 8) = some r := by rw [if_pos rfl] at H; exact H
                                clear H
                                have H := H1
                                clear H1
                                obtain rfl := Option.some.inj H
                                go_wp2_with (first | ((with_reducible refine gate_callee (f := 22) rfl ?_); refine goesL_ (some 26) rfl rfl Try.func22 (by kernel_rfl) rfl #[.int .i64 a0] rfl (by (try simp only [List.map_toArray, List.map_cons, List.map_nil]); first | done | rfl | (simp only [List.length_drop, List.length_take]; rfl)) ?_; (with_reducible refine (postbagref02_Atomic.calls a0 true _ A20.out).mono ?_); rintro e w' ⟨rfl, ⟨nd, rfl⟩⟩; refine ⟨_, rfl, ?_⟩))
                                go_ret
                                exact ⟨by first | rfl | (simp; done) | (simp [*]; done), by repeat (first | exact Drawn0.refl _ | apply Drawn0.step)⟩
                              · replace c21 := Bool.eq_false_iff.mpr c21
                                subst c21
                                have H1 : (some 0) = some r := by rw [if_neg (show ¬ (false = true) by decide)] at H; exact H
                                clear H
                                have H := H1
                                clear H1
                                obtain rfl := Option.some.inj H
                                go_wp2_with (first | ((with_reducible refine gate_callee (f := 22) rfl ?_); refine goesL_ (some 26) rfl rfl Try.func22 (by kernel_rfl) rfl #[.int .i64 a0] rfl (by (try simp only [List.map_toArray, List.map_cons, List.map_nil]); first | done | rfl | (simp only [List.length_drop, List.length_take]; rfl)) ?_; (with_reducible refine (postbagref02_Atomic.calls a0 false _ A20.out).mono ?_); rintro e w' ⟨rfl, ⟨nd, rfl⟩⟩; refine ⟨_, rfl, ?_⟩))
                                go_ret
                                exact ⟨by first | rfl | (simp; done) | (simp [*]; done), by repeat (first | exact Drawn0.refl _ | apply Drawn0.step)⟩
def postbagref02_Size.f (a0 : Int) : Option (Int) := some (if a0 = 11 ∨ a0 = 15 ∨ a0 = 18 then 1 else if a0 = 12 ∨ a0 = 16 ∨ a0 = 19 then 2 else if a0 = 13 ∨ a0 = 17 ∨ a0 = 20 then 4 else if a0 = 14 ∨ a0 = 21 then 8 else if 66 ≤ a0 ∧ a0 < 77 then 4 else if 77 ≤ a0 ∧ a0 ≤ 87 then 8 else 0)
theorem postbagref02_Size.spec (a0 r : Int) (h : postbagref02_Size.f a0 = some r) : ∃ k, postbagref02_Size0.f k a0 = some r := by
  rw [← h]; refine ⟨5, ?_⟩; unfold postbagref02_Size.f
  by_cases hr : 11 ≤ a0 ∧ a0 ≤ 21
  · have hc : a0 = 11 ∨ a0 = 12 ∨ a0 = 13 ∨ a0 = 14 ∨ a0 = 15 ∨ a0 = 16 ∨ a0 = 17 ∨ a0 = 18 ∨ a0 = 19 ∨ a0 = 20 ∨ a0 = 21 := by omega
    rcases hc with rfl | rfl | rfl | rfl | rfl | rfl | rfl | rfl | rfl | rfl | rfl <;> decide +kernel
  · have hn : ∀ x : Int, 11 ≤ x → x ≤ 21 → a0 ≠ x := by intro x h1 h2 e; omega
    have g : a0 ≠ 11 ∧ a0 ≠ 12 ∧ a0 ≠ 13 ∧ a0 ≠ 14 ∧ a0 ≠ 15 ∧ a0 ≠ 16 ∧ a0 ≠ 17 ∧ a0 ≠ 18 ∧ a0 ≠ 19 ∧ a0 ≠ 20 ∧ a0 ≠ 21 := by omega
    obtain ⟨g1, g2, g3, g4, g5, g6, g7, g8, g9, g10, g11⟩ := g
    by_cases h2 : 66 ≤ a0
    · by_cases h3 : a0 < 77
      · simp [postbagref02_Size0.f, postbagref02_Size0.j0, postbagref02_Size0.j1, postbagref02_Size0.j2, postbagref02_Size0.j3, postbagref02_Atomic.f, g1, g2, g3, g4, g5, g6, g7, g8, g9, g10, g11, h2, h3, show a0 ≤ 87 by omega]
      · by_cases h4 : a0 ≤ 87
        · simp [postbagref02_Size0.f, postbagref02_Size0.j0, postbagref02_Size0.j1, postbagref02_Size0.j2, postbagref02_Size0.j3, postbagref02_Atomic.f, g1, g2, g3, g4, g5, g6, g7, g8, g9, g10, g11, h2, h3, h4, show 77 ≤ a0 by omega]
        · simp [postbagref02_Size0.f, postbagref02_Size0.j0, postbagref02_Size0.j1, postbagref02_Size0.j2, postbagref02_Size0.j3, postbagref02_Atomic.f, g1, g2, g3, g4, g5, g6, g7, g8, g9, g10, g11, h2, h3, h4]
    · simp [postbagref02_Size0.f, postbagref02_Size0.j0, postbagref02_Size0.j1, postbagref02_Size0.j2, postbagref02_Size0.j3, postbagref02_Atomic.f, g1, g2, g3, g4, g5, g6, g7, g8, g9, g10, g11, h2, show ¬ (77 ≤ a0) by omega]

theorem postbagref02_Size.calls (a0 : Int) (r : Int) (w : World) (h : postbagref02_Size.f a0 = some r) :
    Calls Try.prog 24 #[.int .i64 a0] w fun e w' => e = .returned (.int .i64 r) ∧ Drawn0 w w' := by
  obtain ⟨k, hk⟩ := postbagref02_Size.spec a0 r h
  exact postbagref02_Size0.calls k a0 r w hk

/-! ### postbagref02_Ints: function 25 -/
def postbagref02_Ints.l0 : Nat → List Int → List Int → Int → Option (Bool)
  | 0, _, _, _ => none
  | k + 1, x0, x1, x5 => if x5 < (x0.length : Int) then (if 0 ≤ x5 then (if x5 < (x1.length : Int) then (if (rd x0 x5) = (rd x1 x5) then (postbagref02_Ints.l0 k x0 x1 (wrap64 (x5 + 1))) else (some false)) else (none)) else (none)) else (some true)
def postbagref02_Ints.f (k : Nat) (l0 : List Int) (l1 : List Int) : Option (Bool) := if (l0.length : Int) = (l1.length : Int) then (postbagref02_Ints.l0 k l0 l1 0) else (some false)
theorem postbagref02_Ints.mono_l : ∀ k, (∀ y0 y1 y2, LeO (postbagref02_Ints.l0 k y0 y1 y2) (postbagref02_Ints.l0 (k + 1) y0 y1 y2))
  | 0 => fun _ _ _ r h => by simp [postbagref02_Ints.l0] at h
  | k + 1 => by
    have ih0 := postbagref02_Ints.mono_l k
    · intro y0 y1 y2
      unfold postbagref02_Ints.l0
      repeat' first
      | (with_reducible exact ih0 _ _ _)
      | (with_reducible exact LeO.refl _)
      | (with_reducible exact LeO.none _)
      | (with_reducible refine LeO.ite ?_ ?_)
      | (with_reducible refine LeO.bind ?_ (fun _ => ?_))
      | exact ih0 _ _ _
      | exact LeO.none _
      | refine LeO.ite ?_ ?_
      | refine LeO.bind ?_ (fun _ => ?_)
theorem postbagref02_Ints.mono : ∀ a0 a1 k, LeO (postbagref02_Ints.f k a0 a1) (postbagref02_Ints.f (k + 1) a0 a1) := by
  intro a0 a1 k
  have ih0 := postbagref02_Ints.mono_l k
  unfold postbagref02_Ints.f
  repeat' first
      | (with_reducible exact ih0 _ _ _)
      | (with_reducible exact LeO.refl _)
      | (with_reducible exact LeO.none _)
      | (with_reducible refine LeO.ite ?_ ?_)
      | (with_reducible refine LeO.bind ?_ (fun _ => ?_))
      | exact ih0 _ _ _
      | exact LeO.none _
      | refine LeO.ite ?_ ?_
      | refine LeO.bind ?_ (fun _ => ?_)
set_option maxHeartbeats 8000000 in
set_option maxRecDepth 100000 in
theorem postbagref02_Ints.calls (k : Nat) (A0 : Option Addr) (c0 : Nat) (l0 : List Int) (A1 : Option Addr) (c1 : Nat) (l1 : List Int) (r : Bool) (w : World) (hr0 : Kd.C (Kd.int .i64) w A0 l0.length l0) (hc0 : l0.length ≤ c0) (hr1 : Kd.C (Kd.int .i64) w A1 l1.length l1) (hc1 : l1.length ≤ c1) (h : postbagref02_Ints.f k l0 l1 = some r) :
    Calls Try.prog 25 #[.slice A0 l0.length c0, .slice A1 l1.length c1] w fun e w' => e = .returned (.bool r) ∧ Drawn0 w w' := by
  have HR0 := Aside0.mk hr0
  have HC0 := Aside0.mk hc0
  clear hr0 hc0
  have HR1 := Aside0.mk hr1
  have HC1 := Aside0.mk hc1
  clear hr1 hc1
  have H : (if (l0.length : Int) = (l1.length : Int) then (postbagref02_Ints.l0 k l0 l1 0) else (some false)) = some r := h
  clear h
  by_cases c3 : (l0.length : Int) = (l1.length : Int)
  · rw [if_pos c3] at H
    have c3b0 : ((l0.length : Int) == (l1.length : Int)) = true := beq_iff_eq.mpr c3
    have c3b1 : ((l0.length : Int) != (l1.length : Int)) = false := bne_eq_false_iff_eq.mpr c3
    have c3b2 : (l0.length == l1.length) = true := by first | simpa using c3 | (simp at c3 ⊢; omega)
    clear c3
    have H' := Aside0.mk H
    clear H
    go_enter Try.func25, Try.ntmps25
    go_wp2
    repeat (go_quiet (fail); try go_wp2)
    go_loopg [5] k (fun kq v5 w' => ∃ (x5_1 : Int), v5 = .int .i64 x5_1 ∧ Aside0 (postbagref02_Ints.l0 kq l0 l1 x5_1 = some r) ∧ Aside0 (kq ≤ k) ∧ Drawn0 w w')
    case atStart => exact ⟨(0), (by first | rfl | (simp; done) | (simp [*]; done)), H', ⟨Nat.le_refl _⟩, by repeat (first | exact Drawn0.refl _ | apply Drawn0.step)⟩
    case round =>
      clear H'
      try clear c1
      try clear c2
      try clear p2
      try clear c3
      try clear c3b0
      try clear c3b1
      try clear c3b2
      obtain ⟨x5_1, rfl, HA, HK1, ⟨m1, rfl⟩⟩ := hrel
      cases gk with
      | zero => exact absurd HA.out (by simp [postbagref02_Ints.l0])
      | succ k1 =>
        have H := HA.out
        clear HA
        simp only [postbagref02_Ints.l0] at H
        by_cases c4 : x5_1 < (l0.length : Int)
        · rw [if_pos c4] at H
          have c4b0 : decide (x5_1 < (l0.length : Int)) = true := decide_eq_true c4
          clear c4
          by_cases c5 : 0 ≤ x5_1
          · rw [if_pos c5] at H
            have c5b0 : decide (0 ≤ x5_1) = true := decide_eq_true c5
            clear c5
            by_cases c6 : x5_1 < (l1.length : Int)
            · rw [if_pos c6] at H
              have c6b0 : decide (x5_1 < (l1.length : Int)) = true := decide_eq_true c6
              clear c6
              by_cases c7 : (rd l0 x5_1) = (rd l1 x5_1)
              · rw [if_pos c7] at H
                have c7b0 : ((rd l0 x5_1) == (rd l1 x5_1)) = true := beq_iff_eq.mpr c7
                have c7b1 : ((rd l0 x5_1) != (rd l1 x5_1)) = false := bne_eq_false_iff_eq.mpr c7
                clear c7
                have H' := Aside0.mk H
                clear H
                have p194 : 0 ≤ (x5_1 : Int) := of_decide_eq_true (by first | (with_reducible assumption) | assumption)
                have q194 : x5_1 < (l0.length : Int) := of_decide_eq_true (by first | (with_reducible assumption) | assumption)
                obtain ⟨ad194, e194, hx194_0⟩ := Kd.at_int HR0.out x5_1 p194 q194
                cases e194
                replace p194 := eq_true p194
                replace q194 := eq_true q194
                have p195 : 0 ≤ (x5_1 : Int) := of_decide_eq_true (by first | (with_reducible assumption) | assumption)
                have q195 : x5_1 < (l1.length : Int) := of_decide_eq_true (by first | (with_reducible assumption) | assumption)
                obtain ⟨ad195, e195, hx195_0⟩ := Kd.at_int HR1.out x5_1 p195 q195
                cases e195
                replace p195 := eq_true p195
                replace q195 := eq_true q195
                go_wp2
                repeat (go_quiet (fail); try go_wp2)
                go_roundg k1
                case measure => have := HK1.out; omega
                case rel => exact ⟨(wrap64 (x5_1 + 1)), (by first | rfl | (simp; done) | (simp [*]; done)), H', ⟨by have := HK1.out; omega⟩, by repeat (first | exact Drawn0.refl _ | apply Drawn0.step)⟩
              · rw [if_neg c7] at H
                have c7b0 : ((rd l0 x5_1) == (rd l1 x5_1)) = false := beq_eq_false_iff_ne.mpr c7
                have c7b1 : ((rd l0 x5_1) != (rd l1 x5_1)) = true := bne_iff_ne.mpr c7
                obtain rfl := Option.some.inj H
                have p194 : 0 ≤ (x5_1 : Int) := of_decide_eq_true (by first | (with_reducible assumption) | assumption)
                have q194 : x5_1 < (l0.length : Int) := of_decide_eq_true (by first | (with_reducible assumption) | assumption)
                obtain ⟨ad194, e194, hx194_0⟩ := Kd.at_int HR0.out x5_1 p194 q194
                cases e194
                replace p194 := eq_true p194
                replace q194 := eq_true q194
                have p195 : 0 ≤ (x5_1 : Int) := of_decide_eq_true (by first | (with_reducible assumption) | assumption)
                have q195 : x5_1 < (l1.length : Int) := of_decide_eq_true (by first | (with_reducible assumption) | assumption)
                obtain ⟨ad195, e195, hx195_0⟩ := Kd.at_int HR1.out x5_1 p195 q195
                cases e195
                replace p195 := eq_true p195
                replace q195 := eq_true q195
                go_wp2
                repeat (go_quiet (fail); try go_wp2)
                go_ret
                exact ⟨by first | rfl | (simp; done) | (simp [*]; done), by repeat (first | exact Drawn0.refl _ | apply Drawn0.step)⟩
            · rw [if_neg c6] at H
              exact absurd H (by simp)
          · rw [if_neg c5] at H
            exact absurd H (by simp)
        · rw [if_neg c4] at H
          have c4b0 : decide (x5_1 < (l0.length : Int)) = false := decide_eq_false c4
          clear c4
          obtain rfl := Option.some.inj H
          go_wp2
          repeat (go_quiet (fail); try go_wp2)
          go_ret
          exact ⟨by first | rfl | (simp; done) | (simp [*]; done), by repeat (first | exact Drawn0.refl _ | apply Drawn0.step)⟩
  · rw [if_neg c3] at H
    have c3b0 : ((l0.length : Int) == (l1.length : Int)) = false := beq_eq_false_iff_ne.mpr c3
    have c3b1 : ((l0.length : Int) != (l1.length : Int)) = true := bne_iff_ne.mpr c3
    have c3b2 : (l0.length == l1.length) = false := by first | simpa using c3 | (simp at c3 ⊢; omega)
    obtain rfl := Option.some.inj H
    go_enter Try.func25, Try.ntmps25
    go_wp2
    repeat (go_quiet (fail); try go_wp2)
    go_ret
    exact ⟨by first | rfl | (simp; done) | (simp [*]; done), by repeat (first | exact Drawn0.refl _ | apply Drawn0.step)⟩

/-! ### inst_Uses: function 26 -/
def usesOf (op rd rs1 rs2 imm : Int) (aq rl : Bool) : List Int := if goodOf op rd rs1 rs2 imm aq rl = true then (if 0 < rs1 then [rs1] else []) ++ (if 0 < rs2 then [rs2] else []) else []
def inst_Uses.f (a0_0 : Int) (a0_1 : Int) (a0_2 : Int) (a0_3 : Int) (a0_4 : Int) (a0_5 : Bool) (a0_6 : Bool) : Option (List Int) := if I64 a0_4 then some (usesOf a0_0 a0_1 a0_2 a0_3 a0_4 a0_5 a0_6) else none
set_option maxHeartbeats 8000000 in
theorem inst_Uses.calls (a0_0 : Int) (a0_1 : Int) (a0_2 : Int) (a0_3 : Int) (a0_4 : Int) (a0_5 : Bool) (a0_6 : Bool) (r : List Int) (w : World) (h : inst_Uses.f a0_0 a0_1 a0_2 a0_3 a0_4 a0_5 a0_6 = some r) :
    Calls Try.prog 26 #[.agg #[.int .i64 a0_0, .int .i64 a0_1, .int .i64 a0_2, .int .i64 a0_3, .int .i64 a0_4, .bool a0_5, .bool a0_6]] w fun e w' => ∃ v0_ : Value, e = .returned (v0_) ∧ Kd.R (Kd.int .i64) 3 w' w.heap.size (fun _ => True) v0_ r ∧ Below w.heap.size w w' := by
  unfold inst_Uses.f at h
  by_cases hi : I64 a0_4
  case neg => rw [if_neg hi] at h; simp at h
  rw [if_pos hi] at h
  obtain rfl := Option.some.inj h
  have hG := Lib.hid (fun (W : World) => inst_Good.calls a0_0 a0_1 a0_2 a0_3 a0_4 a0_5 a0_6 _ W (by unfold inst_Good.f; rw [if_pos hi]))
  clear hi
  by_cases hg : goodOf a0_0 a0_1 a0_2 a0_3 a0_4 a0_5 a0_6 = true
  case neg =>
    have hu : Hid (usesOf a0_0 a0_1 a0_2 a0_3 a0_4 a0_5 a0_6 = []) := by unfold usesOf; rw [if_neg hg]; rfl
    rw [hu.out]
    have hg' : goodOf a0_0 a0_1 a0_2 a0_3 a0_4 a0_5 a0_6 = false := by simpa using hg
    clear hg hu
    go_enter Try.func26, Try.ntmps26
    go_wp2_with fail
    refine (hG.out _).mono ?_
    rintro e w1 ⟨rfl, hb⟩
    have hb := Lib.hid hb
    go_wp2_with fail
    go_ret
    exact ⟨_, rfl, Kd.R_nil _ _ _ _ _, (((Below.refl _ _).alloc (Nat.le_refl _) _).trans (hb.out.mono (by simp)))⟩
  case pos =>
    have hr := goodI hg
    have hb1 := hr.rs10
    have hb2 := hr.rs20
    clear hr
    have hu : Hid (usesOf a0_0 a0_1 a0_2 a0_3 a0_4 a0_5 a0_6 = (if 0 < a0_2 then [a0_2] else []) ++ (if 0 < a0_3 then [a0_3] else [])) := by unfold usesOf; rw [if_pos hg]; rfl
    rw [hu.out]
    clear hu
    by_cases h2 : 0 < a0_2
    · by_cases h3 : 0 < a0_3
      · have hs : Hid (((if 0 < a0_2 then [a0_2] else []) ++ (if 0 < a0_3 then [a0_3] else [])) = [] ++ [a0_2] ++ [a0_3]) := by rw [if_pos h2, if_pos h3]; rfl
        rw [hs.out]; clear hs
        go_enter Try.func26, Try.ntmps26
        go_wp2_with fail
        refine (hG.out _).mono ?_
        rintro e w1 ⟨rfl, hb⟩
        have B1 := (Blk.new w _ _).below hb
        have c1 := B1.cell
        have hb := Lib.hid ((((Below.refl w.heap.size w).alloc (Nat.le_refl _) _).trans (hb.mono (by simp))))
        clear B1
        go_wp2_with fail
        clear c1
        refine wp_loop_rounds 3 ?_
        have hidx : ∀ (W : World), (Instr.index 67 (.agg #[.int .i64 a0_2, .int .i64 a0_3]) (.int .i64 0)).run Try.prog W = .ok (.int .i64 a0_2) W := fun _ => by kernel_rfl
        have hidy : ∀ (W : World), (Instr.index 67 (.agg #[.int .i64 a0_2, .int .i64 a0_3]) (.int .i64 1)).run Try.prog W = .ok (.int .i64 a0_3) W := fun _ => by kernel_rfl
        rw [rounds_succ]
        go_wp2_with ((with_reducible refine gate_builtin (b := .append) (xs := #[.tmp 18, .tmp 20]) rfl ?_); at_builtin; (refine Kd.R_append (Kd.int .i64) (w0 := w) w.heap.size rfl (.tmp 18) (.tmp 20) 41 3 (.int .i64 0) 8 rfl Try.underlying41 info3 rfl (by decide) (by omega) (Value.slice none 0 0) ([]) a0_2 [.int .i64 a0_2] (fun _ => True) (fun _ => False) rfl rfl ?aP (fun _ hk => hk.elim) ?aF ?aO ?aB ?aS ?aL ?_); (case aP => exact rfl); (case aB => exact (hb.out)); (case aF => exact (fun _ _ => trivial)); (case aO => exact (Kd.R_nil _ _ _ _ _)); (case aS => exact (hb.out).size); (case aL => simp); intro v1 w2 ho hb2 hg2 hat; have ho := Lib.hid ho; have v1b := Lib.hid hb2; clear hb2 hg2 hat)
        rw [rounds_succ]
        go_wp2_with ((with_reducible refine gate_builtin (b := .append) (xs := #[.tmp 18, .tmp 20]) rfl ?_); at_builtin; (refine Kd.R_append (Kd.int .i64) (w0 := w) w.heap.size rfl (.tmp 18) (.tmp 20) 41 3 (.int .i64 0) 8 rfl Try.underlying41 info3 rfl (by decide) (by omega) (v1) ([] ++ [a0_2]) a0_3 [.int .i64 a0_3] (fun _ => True) (fun _ => False) rfl rfl ?aP (fun _ hk => hk.elim) ?aF ?aO ?aB ?aS ?aL ?_); (case aP => exact rfl); (case aB => exact (v1b.out)); (case aF => exact (fun _ _ => trivial)); (case aO => exact (ho.out)); (case aS => exact (v1b.out).size); (case aL => simp); intro v2 w3 ho hb2 hg2 hat; have ho := Lib.hid ho; have v2b := Lib.hid hb2; clear hb2 hg2 hat)
        rw [rounds_succ]
        go_wp2
        (try go_ret)
        exact ⟨_, rfl, ho.out, v2b.out⟩
      · have hs : Hid (((if 0 < a0_2 then [a0_2] else []) ++ (if 0 < a0_3 then [a0_3] else [])) = [] ++ [a0_2]) := by rw [if_pos h2, if_neg h3]; rfl
        rw [hs.out]; clear hs
        go_enter Try.func26, Try.ntmps26
        go_wp2_with fail
        refine (hG.out _).mono ?_
        rintro e w1 ⟨rfl, hb⟩
        have B1 := (Blk.new w _ _).below hb
        have c1 := B1.cell
        have hb := Lib.hid ((((Below.refl w.heap.size w).alloc (Nat.le_refl _) _).trans (hb.mono (by simp))))
        clear B1
        go_wp2_with fail
        clear c1
        refine wp_loop_rounds 3 ?_
        have hidx : ∀ (W : World), (Instr.index 67 (.agg #[.int .i64 a0_2, .int .i64 a0_3]) (.int .i64 0)).run Try.prog W = .ok (.int .i64 a0_2) W := fun _ => by kernel_rfl
        have hidy : ∀ (W : World), (Instr.index 67 (.agg #[.int .i64 a0_2, .int .i64 a0_3]) (.int .i64 1)).run Try.prog W = .ok (.int .i64 a0_3) W := fun _ => by kernel_rfl
        rw [rounds_succ]
        go_wp2_with ((with_reducible refine gate_builtin (b := .append) (xs := #[.tmp 18, .tmp 20]) rfl ?_); at_builtin; (refine Kd.R_append (Kd.int .i64) (w0 := w) w.heap.size rfl (.tmp 18) (.tmp 20) 41 3 (.int .i64 0) 8 rfl Try.underlying41 info3 rfl (by decide) (by omega) (Value.slice none 0 0) ([]) a0_2 [.int .i64 a0_2] (fun _ => True) (fun _ => False) rfl rfl ?aP (fun _ hk => hk.elim) ?aF ?aO ?aB ?aS ?aL ?_); (case aP => exact rfl); (case aB => exact (hb.out)); (case aF => exact (fun _ _ => trivial)); (case aO => exact (Kd.R_nil _ _ _ _ _)); (case aS => exact (hb.out).size); (case aL => simp); intro v1 w2 ho hb2 hg2 hat; have ho := Lib.hid ho; have v1b := Lib.hid hb2; clear hb2 hg2 hat)
        rw [rounds_succ]
        go_wp2_with fail
        rw [rounds_succ]
        go_wp2
        (try go_ret)
        exact ⟨_, rfl, ho.out, v1b.out⟩
    · by_cases h3 : 0 < a0_3
      · have hs : Hid (((if 0 < a0_2 then [a0_2] else []) ++ (if 0 < a0_3 then [a0_3] else [])) = [] ++ [a0_3]) := by rw [if_neg h2, if_pos h3]; rfl
        rw [hs.out]; clear hs
        go_enter Try.func26, Try.ntmps26
        go_wp2_with fail
        refine (hG.out _).mono ?_
        rintro e w1 ⟨rfl, hb⟩
        have B1 := (Blk.new w _ _).below hb
        have c1 := B1.cell
        have hb := Lib.hid ((((Below.refl w.heap.size w).alloc (Nat.le_refl _) _).trans (hb.mono (by simp))))
        clear B1
        go_wp2_with fail
        clear c1
        refine wp_loop_rounds 3 ?_
        have hidx : ∀ (W : World), (Instr.index 67 (.agg #[.int .i64 a0_2, .int .i64 a0_3]) (.int .i64 0)).run Try.prog W = .ok (.int .i64 a0_2) W := fun _ => by kernel_rfl
        have hidy : ∀ (W : World), (Instr.index 67 (.agg #[.int .i64 a0_2, .int .i64 a0_3]) (.int .i64 1)).run Try.prog W = .ok (.int .i64 a0_3) W := fun _ => by kernel_rfl
        rw [rounds_succ]
        go_wp2_with fail
        rw [rounds_succ]
        go_wp2_with ((with_reducible refine gate_builtin (b := .append) (xs := #[.tmp 18, .tmp 20]) rfl ?_); at_builtin; (refine Kd.R_append (Kd.int .i64) (w0 := w) w.heap.size rfl (.tmp 18) (.tmp 20) 41 3 (.int .i64 0) 8 rfl Try.underlying41 info3 rfl (by decide) (by omega) (Value.slice none 0 0) ([]) a0_3 [.int .i64 a0_3] (fun _ => True) (fun _ => False) rfl rfl ?aP (fun _ hk => hk.elim) ?aF ?aO ?aB ?aS ?aL ?_); (case aP => exact rfl); (case aB => exact (hb.out)); (case aF => exact (fun _ _ => trivial)); (case aO => exact (Kd.R_nil _ _ _ _ _)); (case aS => exact (hb.out).size); (case aL => simp); intro v2 w3 ho hb2 hg2 hat; have ho := Lib.hid ho; have v2b := Lib.hid hb2; clear hb2 hg2 hat)
        rw [rounds_succ]
        go_wp2
        (try go_ret)
        exact ⟨_, rfl, ho.out, v2b.out⟩
      · have hs : Hid (((if 0 < a0_2 then [a0_2] else []) ++ (if 0 < a0_3 then [a0_3] else [])) = []) := by rw [if_neg h2, if_neg h3]; rfl
        rw [hs.out]; clear hs
        go_enter Try.func26, Try.ntmps26
        go_wp2_with fail
        refine (hG.out _).mono ?_
        rintro e w1 ⟨rfl, hb⟩
        have B1 := (Blk.new w _ _).below hb
        have c1 := B1.cell
        have hb := Lib.hid ((((Below.refl w.heap.size w).alloc (Nat.le_refl _) _).trans (hb.mono (by simp))))
        clear B1
        go_wp2_with fail
        clear c1
        refine wp_loop_rounds 3 ?_
        have hidx : ∀ (W : World), (Instr.index 67 (.agg #[.int .i64 a0_2, .int .i64 a0_3]) (.int .i64 0)).run Try.prog W = .ok (.int .i64 a0_2) W := fun _ => by kernel_rfl
        have hidy : ∀ (W : World), (Instr.index 67 (.agg #[.int .i64 a0_2, .int .i64 a0_3]) (.int .i64 1)).run Try.prog W = .ok (.int .i64 a0_3) W := fun _ => by kernel_rfl
        rw [rounds_succ]
        go_wp2_with fail
        rw [rounds_succ]
        go_wp2_with fail
        rw [rounds_succ]
        go_wp2
        (try go_ret)
        exact ⟨_, rfl, Kd.R_nil _ _ _ _ _, hb.out⟩


end Go.Proofs.Yteidfegohdilbaa.PInstTells
