/- DERIVED. The contracts of the Go functions that one law reaches: each call returns what the plain function beside it says, under that theorem's own premises. Written by a program (hp.py) over the kit's printed words. -/
import Derived.Test.YtjdidadafccepaaPAluLoadsx0
import Derived.Test.YtjdidadafccepaaPAluLoadsx8
namespace Go.Proofs.Ytjdidadafccepaa.PAluLoads
open Go.RowKit Go.Proofs.YtjdidadafccepaaW.PrintWords Go.Proofs.YtjdidadafccepaaW.PrintLast Go.Proofs.YtjdidadafccepaaW.PrintMore Go.Proofs.Ytjdidadafccepaa.M
attribute [local go_sem] max2_int min2_int max_two min_two max_three min_three max_four min_four   -- for this text's walks alone
set_option linter.unusedVariables false
set_option linter.unusedSimpArgs false

/-! ### postbagref02_Size0: function 47 -/
mutual
def postbagref02_Size0.j0 : Nat → Int → Int → Bool → Option (Int)
  | 0, _, _, _ => none
  | k + 1, x0, x3, x4 => if x4 = true then (some 1) else (if x3 = 12 then (postbagref02_Size0.j1 k x0 x3 (x3 == 12)) else (if x3 = 16 then (postbagref02_Size0.j1 k x0 x3 (x3 == 16)) else (postbagref02_Size0.j1 k x0 x3 (x3 == 19))))
def postbagref02_Size0.j1 : Nat → Int → Int → Bool → Option (Int)
  | 0, _, _, _ => none
  | k + 1, x0, x3, x8 => if x8 = true then (some 2) else (if x3 = 13 then (postbagref02_Size0.j2 k x0 x3 (x3 == 13)) else (if x3 = 17 then (postbagref02_Size0.j2 k x0 x3 (x3 == 17)) else (postbagref02_Size0.j2 k x0 x3 (x3 == 20))))
def postbagref02_Size0.j2 : Nat → Int → Int → Bool → Option (Int)
  | 0, _, _, _ => none
  | k + 1, x0, x3, x12 => if x12 = true then (some 4) else (if x3 = 14 then (some 8) else (if x3 = 21 then (some 8) else ((postbagref02_Atomic.f x0).bind fun t163 => (if t163 = true then (postbagref02_Size0.j3 k x0 (decide (x0 < 77))) else (postbagref02_Size0.j3 k x0 false)))))
def postbagref02_Size0.j3 : Nat → Int → Bool → Option (Int)
  | 0, _, _ => none
  | k + 1, x0, x24 => if x24 = true then (some 4) else ((postbagref02_Atomic.f x0).bind fun t164 => (if t164 = true then (some 8) else (some 0)))
end
def postbagref02_Size0.f (k : Nat) (a0 : Int) : Option (Int) := if a0 = 11 then (postbagref02_Size0.j0 k a0 a0 (a0 == 11)) else (if a0 = 15 then (postbagref02_Size0.j0 k a0 a0 (a0 == 15)) else (postbagref02_Size0.j0 k a0 a0 (a0 == 18)))
theorem postbagref02_Size0.mono_l : ∀ k, (∀ y0 y1 y2, LeO (postbagref02_Size0.j0 k y0 y1 y2) (postbagref02_Size0.j0 (k + 1) y0 y1 y2)) ∧ (∀ y0 y1 y2, LeO (postbagref02_Size0.j1 k y0 y1 y2) (postbagref02_Size0.j1 (k + 1) y0 y1 y2)) ∧ (∀ y0 y1 y2, LeO (postbagref02_Size0.j2 k y0 y1 y2) (postbagref02_Size0.j2 (k + 1) y0 y1 y2)) ∧ (∀ y0 y1, LeO (postbagref02_Size0.j3 k y0 y1) (postbagref02_Size0.j3 (k + 1) y0 y1))
  | 0 => ⟨fun _ _ _ r h => by simp [postbagref02_Size0.j0] at h, fun _ _ _ r h => by simp [postbagref02_Size0.j1] at h, fun _ _ _ r h => by simp [postbagref02_Size0.j2] at h, fun _ _ r h => by simp [postbagref02_Size0.j3] at h⟩
  | k + 1 => by
    obtain ⟨ih0, ih1, ih2, ih3⟩ := postbagref02_Size0.mono_l k
    refine ⟨?_, ?_, ?_, ?_⟩
    · intro y0 y1 y2
      unfold postbagref02_Size0.j0
      repeat' first
      | (with_reducible exact ih0 _ _ _)
      | (with_reducible exact ih1 _ _ _)
      | (with_reducible exact ih2 _ _ _)
      | (with_reducible exact ih3 _ _)
      | (with_reducible exact LeO.refl _)
      | (with_reducible exact LeO.none _)
      | (with_reducible refine LeO.ite ?_ ?_)
      | (with_reducible refine LeO.bind ?_ (fun _ => ?_))
      | exact ih0 _ _ _
      | exact ih1 _ _ _
      | exact ih2 _ _ _
      | exact ih3 _ _
      | exact LeO.none _
      | refine LeO.ite ?_ ?_
      | refine LeO.bind ?_ (fun _ => ?_)
    · intro y0 y1 y2
      unfold postbagref02_Size0.j1
      repeat' first
      | (with_reducible exact ih0 _ _ _)
      | (with_reducible exact ih1 _ _ _)
      | (with_reducible exact ih2 _ _ _)
      | (with_reducible exact ih3 _ _)
      | (with_reducible exact LeO.refl _)
      | (with_reducible exact LeO.none _)
      | (with_reducible refine LeO.ite ?_ ?_)
      | (with_reducible refine LeO.bind ?_ (fun _ => ?_))
      | exact ih0 _ _ _
      | exact ih1 _ _ _
      | exact ih2 _ _ _
      | exact ih3 _ _
      | exact LeO.none _
      | refine LeO.ite ?_ ?_
      | refine LeO.bind ?_ (fun _ => ?_)
    · intro y0 y1 y2
      unfold postbagref02_Size0.j2
      repeat' first
      | (with_reducible exact ih0 _ _ _)
      | (with_reducible exact ih1 _ _ _)
      | (with_reducible exact ih2 _ _ _)
      | (with_reducible exact ih3 _ _)
      | (with_reducible exact LeO.refl _)
      | (with_reducible exact LeO.none _)
      | (with_reducible refine LeO.ite ?_ ?_)
      | (with_reducible refine LeO.bind ?_ (fun _ => ?_))
      | exact ih0 _ _ _
      | exact ih1 _ _ _
      | exact ih2 _ _ _
      | exact ih3 _ _
      | exact LeO.none _
      | refine LeO.ite ?_ ?_
      | refine LeO.bind ?_ (fun _ => ?_)
    · intro y0 y1
      unfold postbagref02_Size0.j3
      repeat' first
      | (with_reducible exact ih0 _ _ _)
      | (with_reducible exact ih1 _ _ _)
      | (with_reducible exact ih2 _ _ _)
      | (with_reducible exact ih3 _ _)
      | (with_reducible exact LeO.refl _)
      | (with_reducible exact LeO.none _)
      | (with_reducible refine LeO.ite ?_ ?_)
      | (with_reducible refine LeO.bind ?_ (fun _ => ?_))
      | exact ih0 _ _ _
      | exact ih1 _ _ _
      | exact ih2 _ _ _
      | exact ih3 _ _
      | exact LeO.none _
      | refine LeO.ite ?_ ?_
      | refine LeO.bind ?_ (fun _ => ?_)
theorem postbagref02_Size0.mono : ∀ a0 k, LeO (postbagref02_Size0.f k a0) (postbagref02_Size0.f (k + 1) a0) := by
  intro a0 k
  obtain ⟨ih0, ih1, ih2, ih3⟩ := postbagref02_Size0.mono_l k
  unfold postbagref02_Size0.f
  repeat' first
      | (with_reducible exact ih0 _ _ _)
      | (with_reducible exact ih1 _ _ _)
      | (with_reducible exact ih2 _ _ _)
      | (with_reducible exact ih3 _ _)
      | (with_reducible exact LeO.refl _)
      | (with_reducible exact LeO.none _)
      | (with_reducible refine LeO.ite ?_ ?_)
      | (with_reducible refine LeO.bind ?_ (fun _ => ?_))
      | exact ih0 _ _ _
      | exact ih1 _ _ _
      | exact ih2 _ _ _
      | exact ih3 _ _
      | exact LeO.none _
      | refine LeO.ite ?_ ?_
      | refine LeO.bind ?_ (fun _ => ?_)
set_option maxHeartbeats 8000000 in
set_option maxRecDepth 100000 in
theorem postbagref02_Size0.calls (k : Nat) (a0 : Int) (r : Int) (w : World) (h : postbagref02_Size0.f k a0 = some r) :
    Calls Try.prog 47 #[.int .i64 a0] w fun e w' => e = .returned (.int .i64 r) ∧ Drawn0 w w' := by
  have H : (if a0 = 11 then (postbagref02_Size0.j0 k a0 a0 (a0 == 11)) else (if a0 = 15 then (postbagref02_Size0.j0 k a0 a0 (a0 == 15)) else (postbagref02_Size0.j0 k a0 a0 (a0 == 18)))) = some r := h
  clear h
  have HC2 := Aside0.mk H
  clear H
  go_enter Try.func47, Try.ntmps47
  go_upto_if 4 with (fail)
  go_cut [4] (fun v4 wc => ∃ (kq : Nat) (x4_1 : Bool), v4 = .bool x4_1 ∧ Aside0 (postbagref02_Size0.j0 kq a0 a0 x4_1 = some r) ∧ Aside0 (kq ≤ k) ∧ Drawn0 w wc)
  case first =>
    have H := HC2.out
    clear HC2
    by_cases c3 : a0 = 11
    · rw [if_pos c3] at H
      have c3b0 : (a0 == 11) = true := beq_iff_eq.mpr c3
      have c3b1 : (a0 != 11) = false := bne_eq_false_iff_eq.mpr c3
      clear c3
      (first | rw [c3b0] | (simp only [i64_w, i32_w]; rw [c3b0]) | skip)
      have H' := Aside0.mk H
      clear H
      go_wp2
      go_meet
      case rel => exact ⟨_, ((a0 == 11)), (by first | rfl | (simp; done) | (simp [*]; done)), H', ⟨by first | omega | exact Nat.le_refl _⟩, by repeat (first | exact Drawn0.refl _ | apply Drawn0.step)⟩
    · rw [if_neg c3] at H
      have c3b0 : (a0 == 11) = false := beq_eq_false_iff_ne.mpr c3
      have c3b1 : (a0 != 11) = true := bne_iff_ne.mpr c3
      (first | rw [c3b0] | (simp only [i64_w, i32_w]; rw [c3b0]) | skip)
      by_cases c4 : a0 = 15
      · rw [if_pos c4] at H
        have c4b0 : (a0 == 15) = true := beq_iff_eq.mpr c4
        have c4b1 : (a0 != 15) = false := bne_eq_false_iff_eq.mpr c4
        clear c4
        have H' := Aside0.mk H
        clear H
        go_wp2
        go_meet
        case rel => exact ⟨_, ((a0 == 15)), (by first | rfl | (simp; done) | (simp [*]; done)), H', ⟨by first | omega | exact Nat.le_refl _⟩, by repeat (first | exact Drawn0.refl _ | apply Drawn0.step)⟩
      · rw [if_neg c4] at H
        have c4b0 : (a0 == 15) = false := beq_eq_false_iff_ne.mpr c4
        have c4b1 : (a0 != 15) = true := bne_iff_ne.mpr c4
        have H' := Aside0.mk H
        clear H
        go_wp2
        go_meet
        case rel => exact ⟨_, ((a0 == 18)), (by first | rfl | (simp; done) | (simp [*]; done)), H', ⟨by first | omega | exact Nat.le_refl _⟩, by repeat (first | exact Drawn0.refl _ | apply Drawn0.step)⟩
  case rest =>
    clear HC2
    try clear p2
    try clear c3
    try clear c3b0
    try clear c3b1
    try clear c4
    try clear c4b0
    try clear c4b1
    obtain ⟨kq, x4_1, rfl, HA, HJ1, ⟨mc1, rfl⟩⟩ := hcut
    cases kq with
    | zero => exact absurd HA.out (by simp [postbagref02_Size0.j0])
    | succ kj1 =>
      have H := HA.out
      clear HA
      simp only [postbagref02_Size0.j0] at H
      by_cases c5 : x4_1 = true
      · subst c5
        have H1 : (some 1) = some r := by rw [if_pos rfl] at H; exact H
        clear H
        have H := H1
        clear H1
        obtain rfl := Option.some.inj H
        go_wp2
        go_ret
        exact ⟨by first | rfl | (simp; done) | (simp [*]; done), by repeat (first | exact Drawn0.refl _ | apply Drawn0.step)⟩
      · replace c5 := Bool.eq_false_iff.mpr c5
        subst c5
        have H1 : (if a0 = 12 then (postbagref02_Size0.j1 kj1 a0 a0 (a0 == 12)) else (if a0 = 16 then (postbagref02_Size0.j1 kj1 a0 a0 (a0 == 16)) else (postbagref02_Size0.j1 kj1 a0 a0 (a0 == 19)))) = some r := by rw [if_neg (show ¬ (false = true) by decide)] at H; exact H
        clear H
        have H := H1
        clear H1
        have HC6 := Aside0.mk H
        clear H
        go_upto_if 8 with (fail)
        go_cut [8] (fun v8 wc => ∃ (kq : Nat) (x8_5 : Bool), v8 = .bool x8_5 ∧ Aside0 (postbagref02_Size0.j1 kq a0 a0 x8_5 = some r) ∧ Aside0 (kq ≤ kj1) ∧ Drawn0 w wc)
        case first =>
          have H := HC6.out
          clear HC6
          by_cases c7 : a0 = 12
          · rw [if_pos c7] at H
            have c7b0 : (a0 == 12) = true := beq_iff_eq.mpr c7
            have c7b1 : (a0 != 12) = false := bne_eq_false_iff_eq.mpr c7
            clear c7
            (first | rw [c7b0] | (simp only [i64_w, i32_w]; rw [c7b0]) | skip)
            have H' := Aside0.mk H
            clear H
            go_wp2
            go_meet
            case rel => exact ⟨_, ((a0 == 12)), (by first | rfl | (simp; done) | (simp [*]; done)), H', ⟨by have := HJ1.out; first | omega | exact Nat.le_refl _⟩, by repeat (first | exact Drawn0.refl _ | apply Drawn0.step)⟩
          · rw [if_neg c7] at H
            have c7b0 : (a0 == 12) = false := beq_eq_false_iff_ne.mpr c7
            have c7b1 : (a0 != 12) = true := bne_iff_ne.mpr c7
            (first | rw [c7b0] | (simp only [i64_w, i32_w]; rw [c7b0]) | skip)
            by_cases c8 : a0 = 16
            · rw [if_pos c8] at H
              have c8b0 : (a0 == 16) = true := beq_iff_eq.mpr c8
              have c8b1 : (a0 != 16) = false := bne_eq_false_iff_eq.mpr c8
              clear c8
              have H' := Aside0.mk H
              clear H
              go_wp2
              go_meet
              case rel => exact ⟨_, ((a0 == 16)), (by first | rfl | (simp; done) | (simp [*]; done)), H', ⟨by have := HJ1.out; first | omega | exact Nat.le_refl _⟩, by repeat (first | exact Drawn0.refl _ | apply Drawn0.step)⟩
            · rw [if_neg c8] at H
              have c8b0 : (a0 == 16) = false := beq_eq_false_iff_ne.mpr c8
              have c8b1 : (a0 != 16) = true := bne_iff_ne.mpr c8
              have H' := Aside0.mk H
              clear H
              go_wp2
              go_meet
              case rel => exact ⟨_, ((a0 == 19)), (by first | rfl | (simp; done) | (simp [*]; done)), H', ⟨by have := HJ1.out; first | omega | exact Nat.le_refl _⟩, by repeat (first | exact Drawn0.refl _ | apply Drawn0.step)⟩
        case rest =>
          clear HC6
          try clear c1
          try clear p2
          try clear c3
          try clear c3b0
          try clear c3b1
          try clear c4
          try clear c4b0
          try clear c4b1
          try clear c5
          try clear c7
          try clear c7b0
          try clear c7b1
          try clear c8
          try clear c8b0
          try clear c8b1
          try clear p2
          obtain ⟨kq, x8_5, rfl, HA, HJ5, ⟨mc5, rfl⟩⟩ := hcut
          cases kq with
          | zero => exact absurd HA.out (by simp [postbagref02_Size0.j1])
          | succ kj5 =>
            have H := HA.out
            clear HA
            simp only [postbagref02_Size0.j1] at H
            by_cases c9 : x8_5 = true
            · subst c9
              have H1 : (some 2) = some r := by rw [if_pos rfl] at H; exact H
              clear H
              have H := H1
              clear H1
              obtain rfl := Option.some.inj H
              go_wp2
              go_ret
              exact ⟨by first | rfl | (simp; done) | (simp [*]; done), by repeat (first | exact Drawn0.refl _ | apply Drawn0.step)⟩
            · replace c9 := Bool.eq_false_iff.mpr c9
              subst c9
              have H1 : (if a0 = 13 then (postbagref02_Size0.j2 kj5 a0 a0 (a0 == 13)) else (if a0 = 17 then (postbagref02_Size0.j2 kj5 a0 a0 (a0 == 17)) else (postbagref02_Size0.j2 kj5 a0 a0 (a0 == 20)))) = some r := by rw [if_neg (show ¬ (false = true) by decide)] at H; exact H
              clear H
              have H := H1
              clear H1
              have HC10 := Aside0.mk H
              clear H
              go_upto_if 12 with (fail)
              go_cut [12] (fun v12 wc => ∃ (kq : Nat) (x12_9 : Bool), v12 = .bool x12_9 ∧ Aside0 (postbagref02_Size0.j2 kq a0 a0 x12_9 = some r) ∧ Aside0 (kq ≤ kj5) ∧ Drawn0 w wc)
              case first =>
                have H := HC10.out
                clear HC10
                by_cases c11 : a0 = 13
                · rw [if_pos c11] at H
                  have c11b0 : (a0 == 13) = true := beq_iff_eq.mpr c11
                  have c11b1 : (a0 != 13) = false := bne_eq_false_iff_eq.mpr c11
                  clear c11
                  (first | rw [c11b0] | (simp only [i64_w, i32_w]; rw [c11b0]) | skip)
                  have H' := Aside0.mk H
                  clear H
                  go_wp2
                  go_meet
                  case rel => exact ⟨_, ((a0 == 13)), (by first | rfl | (simp; done) | (simp [*]; done)), H', ⟨by have := HJ1.out; have := HJ5.out; first | omega | exact Nat.le_refl _⟩, by repeat (first | exact Drawn0.refl _ | apply Drawn0.step)⟩
                · rw [if_neg c11] at H
                  have c11b0 : (a0 == 13) = false := beq_eq_false_iff_ne.mpr c11
                  have c11b1 : (a0 != 13) = true := bne_iff_ne.mpr c11
                  (first | rw [c11b0] | (simp only [i64_w, i32_w]; rw [c11b0]) | skip)
                  by_cases c12 : a0 = 17
                  · rw [if_pos c12] at H
                    have c12b0 : (a0 == 17) = true := beq_iff_eq.mpr c12
                    have c12b1 : (a0 != 17) = false := bne_eq_false_iff_eq.mpr c12
                    clear c12
                    have H' := Aside0.mk H
                    clear H
                    go_wp2
                    go_meet
                    case rel => exact ⟨_, ((a0 == 17)), (by first | rfl | (simp; done) | (simp [*]; done)), H', ⟨by have := HJ1.out; have := HJ5.out; first | omega | exact Nat.le_refl _⟩, by repeat (first | exact Drawn0.refl _ | apply Drawn0.step)⟩
                  · rw [if_neg c12] at H
                    have c12b0 : (a0 == 17) = false := beq_eq_false_iff_ne.mpr c12
                    have c12b1 : (a0 != 17) = true := bne_iff_ne.mpr c12
                    have H' := Aside0.mk H
                    clear H
                    go_wp2
                    go_meet
                    case rel => exact ⟨_, ((a0 == 20)), (by first | rfl | (simp; done) | (simp [*]; done)), H', ⟨by have := HJ1.out; have := HJ5.out; first | omega | exact Nat.le_refl _⟩, by repeat (first | exact Drawn0.refl _ | apply Drawn0.step)⟩
              case rest =>
                clear HC10
                try clear c1
                try clear p2
                try clear c3
                try clear c3b0
                try clear c3b1
                try clear c4
                try clear c4b0
                try clear c4b1
                try clear c5
                try clear c7
                try clear c7b0
                try clear c7b1
                try clear c8
                try clear c8b0
                try clear c8b1
                try clear c9
                try clear c11
                try clear c11b0
                try clear c11b1
                try clear c12
                try clear c12b0
                try clear c12b1
                try clear p2
                obtain ⟨kq, x12_9, rfl, HA, HJ9, ⟨mc9, rfl⟩⟩ := hcut
                cases kq with
                | zero => exact absurd HA.out (by simp [postbagref02_Size0.j2])
                | succ kj9 =>
                  have H := HA.out
                  clear HA
                  simp only [postbagref02_Size0.j2] at H
                  by_cases c13 : x12_9 = true
                  · subst c13
                    have H1 : (some 4) = some r := by rw [if_pos rfl] at H; exact H
                    clear H
                    have H := H1
                    clear H1
                    obtain rfl := Option.some.inj H
                    go_wp2
                    go_ret
                    exact ⟨by first | rfl | (simp; done) | (simp [*]; done), by repeat (first | exact Drawn0.refl _ | apply Drawn0.step)⟩
                  · replace c13 := Bool.eq_false_iff.mpr c13
                    subst c13
                    have H1 : (if a0 = 14 then (some 8) else (if a0 = 21 then (some 8) else ((postbagref02_Atomic.f a0).bind fun t163 => (if t163 = true then (postbagref02_Size0.j3 kj9 a0 (decide (a0 < 77))) else (postbagref02_Size0.j3 kj9 a0 false))))) = some r := by rw [if_neg (show ¬ (false = true) by decide)] at H; exact H
                    clear H
                    have H := H1
                    clear H1
                    by_cases c14 : a0 = 14
                    · rw [if_pos c14] at H
                      have c14b0 : (a0 == 14) = true := beq_iff_eq.mpr c14
                      have c14b1 : (a0 != 14) = false := bne_eq_false_iff_eq.mpr c14
                      clear c14
                      obtain rfl := Option.some.inj H
                      go_wp2
                      go_ret
                      exact ⟨by first | rfl | (simp; done) | (simp [*]; done), by repeat (first | exact Drawn0.refl _ | apply Drawn0.step)⟩
                    · rw [if_neg c14] at H
                      have c14b0 : (a0 == 14) = false := beq_eq_false_iff_ne.mpr c14
                      have c14b1 : (a0 != 14) = true := bne_iff_ne.mpr c14
                      by_cases c15 : a0 = 21
                      · rw [if_pos c15] at H
                        have c15b0 : (a0 == 21) = true := beq_iff_eq.mpr c15
                        have c15b1 : (a0 != 21) = false := bne_eq_false_iff_eq.mpr c15
                        clear c15
                        obtain rfl := Option.some.inj H
                        go_wp2
                        go_ret
                        exact ⟨by first | rfl | (simp; done) | (simp [*]; done), by repeat (first | exact Drawn0.refl _ | apply Drawn0.step)⟩
                      · rw [if_neg c15] at H
                        have c15b0 : (a0 == 21) = false := beq_eq_false_iff_ne.mpr c15
                        have c15b1 : (a0 != 21) = true := bne_iff_ne.mpr c15
                        have HC16 := Aside0.mk H
                        clear H
                        go_upto_region 17 with (fail)
                        go_cut [24] (fun v24 wc => ∃ (kq : Nat) (x24_15 : Bool), v24 = .bool x24_15 ∧ Aside0 (postbagref02_Size0.j3 kq a0 x24_15 = some r) ∧ Aside0 (kq ≤ kj9) ∧ Drawn0 w wc)
                        case first =>
                          have H := HC16.out
                          clear HC16
                          replace H := Option.bind_eq_some_iff.mp H
                          obtain ⟨t163, A170, H⟩ := H
                          replace H : (if t163 = true then (postbagref02_Size0.j3 kj9 a0 (decide (a0 < 77))) else (postbagref02_Size0.j3 kj9 a0 false)) = some r := H
                          have A17 := Aside0.mk A170
                          clear A170
                          by_cases c18 : t163 = true
                          · subst c18
                            have H1 : (postbagref02_Size0.j3 kj9 a0 (decide (a0 < 77))) = some r := by rw [if_pos rfl] at H; exact H
                            clear H
                            have H := H1
                            clear H1
                            have H' := Aside0.mk H
                            clear H
                            go_wp2_with (first | ((with_reducible refine gate_callee (f := 42) rfl ?_); refine goesL_ (some 20) rfl rfl Try.func42 (by kernel_rfl) rfl #[.int .i64 a0] rfl (by (try simp only [List.map_toArray, List.map_cons, List.map_nil]); first | done | rfl | (simp only [List.length_drop, List.length_take]; rfl)) ?_; (with_reducible refine (postbagref02_Atomic.calls a0 true _ A17.out).mono ?_); rintro e w' ⟨rfl, ⟨nd, rfl⟩⟩; refine ⟨_, rfl, ?_⟩))
                            go_meet
                            case rel => exact ⟨_, (decide (a0 < 77)), (by first | rfl | (simp; done) | (simp [*]; done)), H', ⟨by have := HJ1.out; have := HJ5.out; have := HJ9.out; first | omega | exact Nat.le_refl _⟩, by repeat (first | exact Drawn0.refl _ | apply Drawn0.step)⟩
                          · replace c18 := Bool.eq_false_iff.mpr c18
                            subst c18
                            have H1 : (postbagref02_Size0.j3 kj9 a0 false) = some r := by rw [if_neg (show ¬ (false = true) by decide)] at H; exact H
                            clear H
                            have H := H1
                            clear H1
                            have H' := Aside0.mk H
                            clear H
                            go_wp2_with (first | ((with_reducible refine gate_callee (f := 42) rfl ?_); refine goesL_ (some 20) rfl rfl Try.func42 (by kernel_rfl) rfl #[.int .i64 a0] rfl (by (try simp only [List.map_toArray, List.map_cons, List.map_nil]); first | done | rfl | (simp only [List.length_drop, List.length_take]; rfl)) ?_; (with_reducible refine (postbagref02_Atomic.calls a0 false _ A17.out).mono ?_); rintro e w' ⟨rfl, ⟨nd, rfl⟩⟩; refine ⟨_, rfl, ?_⟩))
                            go_meet
                            case rel => exact ⟨_, (false), (by first | rfl | (simp; done) | (simp [*]; done)), H', ⟨by have := HJ1.out; have := HJ5.out; have := HJ9.out; first | omega | exact Nat.le_refl _⟩, by repeat (first | exact Drawn0.refl _ | apply Drawn0.step)⟩
                        case rest =>
                          clear HC16
                          try clear c1
                          try clear p2
                          try clear c3
                          try clear c3b0
                          try clear c3b1
                          try clear c4
                          try clear c4b0
                          try clear c4b1
                          try clear c5
                          try clear c7
                          try clear c7b0
                          try clear c7b1
                          try clear c8
                          try clear c8b0
                          try clear c8b1
                          try clear c9
                          try clear c11
                          try clear c11b0
                          try clear c11b1
                          try clear c12
                          try clear c12b0
                          try clear c12b1
                          try clear c13
                          try clear c14
                          try clear c14b0
                          try clear c14b1
                          try clear c15
                          try clear c15b0
                          try clear c15b1
                          try clear c18
                          try clear p2
                          obtain ⟨kq, x24_15, rfl, HA, HJ15, ⟨mc15, rfl⟩⟩ := hcut
                          cases kq with
                          | zero => exact absurd HA.out (by simp [postbagref02_Size0.j3])
                          | succ kj15 =>
                            have H := HA.out
                            clear HA
                            simp only [postbagref02_Size0.j3] at H
                            by_cases c19 : x24_15 = true
                            · subst c19
                              have H1 : (some 4) = some r := by rw [if_pos rfl] at H; exact H
                              clear H
                              have H := H1
                              clear H1
                              obtain rfl := Option.some.inj H
                              go_wp2
                              go_ret
                              exact ⟨by first | rfl | (simp; done) | (simp [*]; done), by repeat (first | exact Drawn0.refl _ | apply Drawn0.step)⟩
                            · replace c19 := Bool.eq_false_iff.mpr c19
                              subst c19
                              have H1 : ((postbagref02_Atomic.f a0).bind fun t164 => (if t164 = true then (some 8) else (some 0))) = some r := by rw [if_neg (show ¬ (false = true) by decide)] at H; exact H
                              clear H
                              have H := H1
                              clear H1
                              replace H := Option.bind_eq_some_iff.mp H
                              obtain ⟨t164, A200, H⟩ := H
                              replace H : (if t164 = true then (some 8) else (some 0)) = some r := H
                              have A20 := Aside0.mk A200
                              clear A200
                              by_cases c21 : t164 = true
                              · subst c21
                                have H1 : (some 8) = some r := by rw [if_pos rfl] at H; exact H
                                clear H
                                have H := H1
                                clear H1
                                obtain rfl := Option.some.inj H
                                go_wp2_with (first | ((with_reducible refine gate_callee (f := 42) rfl ?_); refine goesL_ (some 26) rfl rfl Try.func42 (by kernel_rfl) rfl #[.int .i64 a0] rfl (by (try simp only [List.map_toArray, List.map_cons, List.map_nil]); first | done | rfl | (simp only [List.length_drop, List.length_take]; rfl)) ?_; (with_reducible refine (postbagref02_Atomic.calls a0 true _ A20.out).mono ?_); rintro e w' ⟨rfl, ⟨nd, rfl⟩⟩; refine ⟨_, rfl, ?_⟩))
                                go_ret
                                exact ⟨by first | rfl | (simp; done) | (simp [*]; done), by repeat (first | exact Drawn0.refl _ | apply Drawn0.step)⟩
                              · replace c21 := Bool.eq_false_iff.mpr c21
                                subst c21
                                have H1 : (some 0) = some r := by rw [if_neg (show ¬ (false = true) by decide)] at H; exact H
                                clear H
                                have H := H1
                                clear H1
                                obtain rfl := Option.some.inj H
                                go_wp2_with (first | ((with_reducible refine gate_callee (f := 42) rfl ?_); refine goesL_ (some 26) rfl rfl Try.func42 (by kernel_rfl) rfl #[.int .i64 a0] rfl (by (try simp only [List.map_toArray, List.map_cons, List.map_nil]); first | done | rfl | (simp only [List.length_drop, List.length_take]; rfl)) ?_; (with_reducible refine (postbagref02_Atomic.calls a0 false _ A20.out).mono ?_); rintro e w' ⟨rfl, ⟨nd, rfl⟩⟩; refine ⟨_, rfl, ?_⟩))
                                go_ret
                                exact ⟨by first | rfl | (simp; done) | (simp [*]; done), by repeat (first | exact Drawn0.refl _ | apply Drawn0.step)⟩
def postbagref02_Size.f (a0 : Int) : Option (Int) := some (if a0 = 11 ∨ a0 = 15 ∨ a0 = 18 then 1 else if a0 = 12 ∨ a0 = 16 ∨ a0 = 19 then 2 else if a0 = 13 ∨ a0 = 17 ∨ a0 = 20 then 4 else if a0 = 14 ∨ a0 = 21 then 8 else if 66 ≤ a0 ∧ a0 < 77 then 4 else if 77 ≤ a0 ∧ a0 ≤ 87 then 8 else 0)
theorem postbagref02_Size.spec (a0 r : Int) (h : postbagref02_Size.f a0 = some r) : ∃ k, postbagref02_Size0.f k a0 = some r := by
  rw [← h]; refine ⟨5, ?_⟩; unfold postbagref02_Size.f
  by_cases hr : 11 ≤ a0 ∧ a0 ≤ 21
  · have hc : a0 = 11 ∨ a0 = 12 ∨ a0 = 13 ∨ a0 = 14 ∨ a0 = 15 ∨ a0 = 16 ∨ a0 = 17 ∨ a0 = 18 ∨ a0 = 19 ∨ a0 = 20 ∨ a0 = 21 := by omega
    rcases hc with rfl | rfl | rfl | rfl | rfl | rfl | rfl | rfl | rfl | rfl | rfl <;> decide +kernel
  · have hn : ∀ x : Int, 11 ≤ x → x ≤ 21 → a0 ≠ x := by intro x h1 h2 e; omega
    have g : a0 ≠ 11 ∧ a0 ≠ 12 ∧ a0 ≠ 13 ∧ a0 ≠ 14 ∧ a0 ≠ 15 ∧ a0 ≠ 16 ∧ a0 ≠ 17 ∧ a0 ≠ 18 ∧ a0 ≠ 19 ∧ a0 ≠ 20 ∧ a0 ≠ 21 := by omega
    obtain ⟨g1, g2, g3, g4, g5, g6, g7, g8, g9, g10, g11⟩ := g
    by_cases h2 : 66 ≤ a0
    · by_cases h3 : a0 < 77
      · simp [postbagref02_Size0.f, postbagref02_Size0.j0, postbagref02_Size0.j1, postbagref02_Size0.j2, postbagref02_Size0.j3, postbagref02_Atomic.f, g1, g2, g3, g4, g5, g6, g7, g8, g9, g10, g11, h2, h3, show a0 ≤ 87 by omega]
      · by_cases h4 : a0 ≤ 87
        · simp [postbagref02_Size0.f, postbagref02_Size0.j0, postbagref02_Size0.j1, postbagref02_Size0.j2, postbagref02_Size0.j3, postbagref02_Atomic.f, g1, g2, g3, g4, g5, g6, g7, g8, g9, g10, g11, h2, h3, h4, show 77 ≤ a0 by omega]
        · simp [postbagref02_Size0.f, postbagref02_Size0.j0, postbagref02_Size0.j1, postbagref02_Size0.j2, postbagref02_Size0.j3, postbagref02_Atomic.f, g1, g2, g3, g4, g5, g6, g7, g8, g9, g10, g11, h2, h3, h4]
    · simp [postbagref02_Size0.f, postbagref02_Size0.j0, postbagref02_Size0.j1, postbagref02_Size0.j2, postbagref02_Size0.j3, postbagref02_Atomic.f, g1, g2, g3, g4, g5, g6, g7, g8, g9, g10, g11, h2, show ¬ (77 ≤ a0) by omega]

theorem postbagref02_Size.calls (a0 : Int) (r : Int) (w : World) (h : postbagref02_Size.f a0 = some r) :
    Calls Try.prog 47 #[.int .i64 a0] w fun e w' => e = .returned (.int .i64 r) ∧ Drawn0 w w' := by
  obtain ⟨k, hk⟩ := postbagref02_Size.spec a0 r h
  exact postbagref02_Size0.calls k a0 r w hk

/-! ### postbagref01_Bit0: function 69 -/
mutual
def postbagref01_Bit0.j0 : Nat → Int → Int → Bool → Option (Int)
  | 0, _, _, _ => none
  | k + 1, x0, x1, x11 => if x11 = true then (some 0) else (postbagref01_Bit0.l0 k x0 x1 0)
def postbagref01_Bit0.l0 : Nat → Int → Int → Int → Option (Int)
  | 0, _, _, _ => none
  | k + 1, x0, x1, x5 => if x5 < x1 then (postbagref01_Bit0.l0 k (IntKind.u64.wrap (Int.tdiv x0 2)) x1 (wrap64 (x5 + 1))) else (some (Int.tmod x0 2))
end
def postbagref01_Bit0.f (k : Nat) (a0 : Int) (a1 : Int) : Option (Int) := if a1 < 0 then (postbagref01_Bit0.j0 k a0 a1 true) else (postbagref01_Bit0.j0 k a0 a1 (decide (a1 > 63)))
theorem postbagref01_Bit0.mono_l : ∀ k, (∀ y0 y1 y2, LeO (postbagref01_Bit0.j0 k y0 y1 y2) (postbagref01_Bit0.j0 (k + 1) y0 y1 y2)) ∧ (∀ y0 y1 y2, LeO (postbagref01_Bit0.l0 k y0 y1 y2) (postbagref01_Bit0.l0 (k + 1) y0 y1 y2))
  | 0 => ⟨fun _ _ _ r h => by simp [postbagref01_Bit0.j0] at h, fun _ _ _ r h => by simp [postbagref01_Bit0.l0] at h⟩
  | k + 1 => by
    obtain ⟨ih0, ih1⟩ := postbagref01_Bit0.mono_l k
    refine ⟨?_, ?_⟩
    · intro y0 y1 y2
      unfold postbagref01_Bit0.j0
      repeat' first
      | (with_reducible exact ih0 _ _ _)
      | (with_reducible exact ih1 _ _ _)
      | (with_reducible exact LeO.refl _)
      | (with_reducible exact LeO.none _)
      | (with_reducible refine LeO.ite ?_ ?_)
      | (with_reducible refine LeO.bind ?_ (fun _ => ?_))
      | exact ih0 _ _ _
      | exact ih1 _ _ _
      | exact LeO.none _
      | refine LeO.ite ?_ ?_
      | refine LeO.bind ?_ (fun _ => ?_)
    · intro y0 y1 y2
      unfold postbagref01_Bit0.l0
      repeat' first
      | (with_reducible exact ih0 _ _ _)
      | (with_reducible exact ih1 _ _ _)
      | (with_reducible exact LeO.refl _)
      | (with_reducible exact LeO.none _)
      | (with_reducible refine LeO.ite ?_ ?_)
      | (with_reducible refine LeO.bind ?_ (fun _ => ?_))
      | exact ih0 _ _ _
      | exact ih1 _ _ _
      | exact LeO.none _
      | refine LeO.ite ?_ ?_
      | refine LeO.bind ?_ (fun _ => ?_)
theorem postbagref01_Bit0.mono : ∀ a0 a1 k, LeO (postbagref01_Bit0.f k a0 a1) (postbagref01_Bit0.f (k + 1) a0 a1) := by
  intro a0 a1 k
  obtain ⟨ih0, ih1⟩ := postbagref01_Bit0.mono_l k
  unfold postbagref01_Bit0.f
  repeat' first
      | (with_reducible exact ih0 _ _ _)
      | (with_reducible exact ih1 _ _ _)
      | (with_reducible exact LeO.refl _)
      | (with_reducible exact LeO.none _)
      | (with_reducible refine LeO.ite ?_ ?_)
      | (with_reducible refine LeO.bind ?_ (fun _ => ?_))
      | exact ih0 _ _ _
      | exact ih1 _ _ _
      | exact LeO.none _
      | refine LeO.ite ?_ ?_
      | refine LeO.bind ?_ (fun _ => ?_)
set_option maxHeartbeats 8000000 in
set_option maxRecDepth 100000 in
theorem postbagref01_Bit0.calls (k : Nat) (a0 : Int) (a1 : Int) (r : Int) (w : World) (h : postbagref01_Bit0.f k a0 a1 = some r) :
    Calls Try.prog 69 #[.int .u64 a0, .int .i64 a1] w fun e w' => e = .returned (.int .u64 r) ∧ Drawn0 w w' := by
  have H : (if a1 < 0 then (postbagref01_Bit0.j0 k a0 a1 true) else (postbagref01_Bit0.j0 k a0 a1 (decide (a1 > 63)))) = some r := h
  clear h
  have HC3 := Aside0.mk H
  clear H
  go_enter Try.func69, Try.ntmps69
  go_upto_region 1 with (fail)
  go_cut [11] (fun v11 wc => ∃ (kq : Nat) (x11_2 : Bool), v11 = .bool x11_2 ∧ Aside0 (postbagref01_Bit0.j0 kq a0 a1 x11_2 = some r) ∧ Aside0 (kq ≤ k) ∧ Drawn0 w wc)
  case first =>
    have H := HC3.out
    clear HC3
    by_cases c4 : a1 < 0
    · rw [if_pos c4] at H
      have c4b0 : decide (a1 < 0) = true := decide_eq_true c4
      clear c4
      (first | rw [c4b0] | (simp only [i64_w, i32_w]; rw [c4b0]) | skip)
      have H' := Aside0.mk H
      clear H
      go_wp2
      go_meet
      case rel => exact ⟨_, (true), (by first | rfl | (simp; done) | (simp [*]; done)), H', ⟨by first | omega | exact Nat.le_refl _⟩, by repeat (first | exact Drawn0.refl _ | apply Drawn0.step)⟩
    · rw [if_neg c4] at H
      have c4b0 : decide (a1 < 0) = false := decide_eq_false c4
      clear c4
      (first | rw [c4b0] | (simp only [i64_w, i32_w]; rw [c4b0]) | skip)
      have H' := Aside0.mk H
      clear H
      go_wp2
      go_meet
      case rel => exact ⟨_, (decide (a1 > 63)), (by first | rfl | (simp; done) | (simp [*]; done)), H', ⟨by first | omega | exact Nat.le_refl _⟩, by repeat (first | exact Drawn0.refl _ | apply Drawn0.step)⟩
  case rest =>
    clear HC3
    try clear p2
    try clear c4
    try clear c4b0
    obtain ⟨kq, x11_2, rfl, HA, HJ2, ⟨mc2, rfl⟩⟩ := hcut
    cases kq with
    | zero => exact absurd HA.out (by simp [postbagref01_Bit0.j0])
    | succ kj2 =>
      have H := HA.out
      clear HA
      simp only [postbagref01_Bit0.j0] at H
      by_cases c5 : x11_2 = true
      · subst c5
        have H1 : (some 0) = some r := by rw [if_pos rfl] at H; exact H
        clear H
        have H := H1
        clear H1
        obtain rfl := Option.some.inj H
        go_wp2
        go_ret
        exact ⟨by first | rfl | (simp; done) | (simp [*]; done), by repeat (first | exact Drawn0.refl _ | apply Drawn0.step)⟩
      · replace c5 := Bool.eq_false_iff.mpr c5
        subst c5
        have H1 : (postbagref01_Bit0.l0 kj2 a0 a1 0) = some r := by rw [if_neg (show ¬ (false = true) by decide)] at H; exact H
        clear H
        have H := H1
        clear H1
        have H' := Aside0.mk H
        clear H
        go_wp2
        go_loopg [0, 5] kj2 (fun kq v0 v5 w' => ∃ (x0_2 : Int) (x5_2 : Int), v0 = .int .u64 x0_2 ∧ v5 = .int .i64 x5_2 ∧ Aside0 (postbagref01_Bit0.l0 kq x0_2 a1 x5_2 = some r) ∧ Aside0 (kq ≤ kj2) ∧ Drawn0 w w')
        case atStart => exact ⟨(a0), (0), (by first | rfl | (simp; done) | (simp [*]; done)), (by first | rfl | (simp; done) | (simp [*]; done)), H', ⟨Nat.le_refl _⟩, by repeat (first | exact Drawn0.refl _ | apply Drawn0.step)⟩
        case round =>
          clear H'
          try clear c2
          try clear p2
          try clear c4
          try clear c4b0
          try clear c5
          try clear p2
          obtain ⟨x0_2, x5_2, rfl, rfl, HA, HK2, ⟨m2, rfl⟩⟩ := hrel
          cases gk with
          | zero => exact absurd HA.out (by simp [postbagref01_Bit0.l0])
          | succ k2 =>
            have H := HA.out
            clear HA
            simp only [postbagref01_Bit0.l0] at H
            by_cases c6 : x5_2 < a1
            · rw [if_pos c6] at H
              have c6b0 : decide (x5_2 < a1) = true := decide_eq_true c6
              clear c6
              have H' := Aside0.mk H
              clear H
              go_wp2
              go_roundg k2
              case measure => have := HJ2.out; have := HK2.out; omega
              case rel => exact ⟨(IntKind.u64.wrap (Int.tdiv x0_2 2)), (wrap64 (x5_2 + 1)), (by first | rfl | (simp; done) | (simp [*]; done)), (by first | rfl | (simp; done) | (simp [*]; done)), H', ⟨by have := HJ2.out; have := HK2.out; omega⟩, by repeat (first | exact Drawn0.refl _ | apply Drawn0.step)⟩
            · rw [if_neg c6] at H
              have c6b0 : decide (x5_2 < a1) = false := decide_eq_false c6
              clear c6
              obtain rfl := Option.some.inj H
              go_wp2
              go_ret
              exact ⟨by first | rfl | (simp; done) | (simp [*]; done), by repeat (first | exact Drawn0.refl _ | apply Drawn0.step)⟩
def postbagref01_Bit.f (a0 : Int) (a1 : Int) : Option (Int) := if U64 a0 then some (bitOf a0 a1) else none
theorem postbagref01_Bit.loop (d : Nat) : ∀ (k : Nat) (x i j : Int), U64 x → 0 ≤ i → j ≤ 63 → j - i = d → d < k → postbagref01_Bit0.l0 k x j i = some (x / 2 ^ d % 2) := by
  induction d with
  | zero =>
    intro k x i j hx h0 h1 hd hk
    obtain ⟨k, rfl⟩ : ∃ m, k = m + 1 := ⟨k - 1, by omega⟩
    simp only [postbagref01_Bit0.l0]
    rw [if_neg (by omega), Int.tmod_eq_emod_of_nonneg hx.1, Int.pow_zero, Int.ediv_one]
  | succ d ih =>
    intro k x i j hx h0 h1 hd hk
    obtain ⟨k, rfl⟩ : ∃ m, k = m + 1 := ⟨k - 1, by omega⟩
    simp only [postbagref01_Bit0.l0]
    have hx2 : U64 (x / 2) := by have := hx; unfold U64 at *; omega
    rw [if_pos (by omega), Int.tdiv_eq_ediv_of_nonneg hx.1, hx2.wrap_eq, I64.wrap_eq (by unfold I64; omega), ih k _ _ _ hx2 (by omega) h1 (by omega) (by omega), Int.ediv_ediv_of_nonneg (by omega), Int.pow_succ, Int.mul_comm]
theorem postbagref01_Bit.spec (a0 a1 r : Int) (h : postbagref01_Bit.f a0 a1 = some r) : ∃ k, postbagref01_Bit0.f k a0 a1 = some r := by
  unfold postbagref01_Bit.f at h
  by_cases hu : U64 a0
  · rw [if_pos hu] at h
    obtain rfl := Option.some.inj h
    refine ⟨a1.toNat + 3, ?_⟩
    unfold postbagref01_Bit0.f bitOf
    by_cases h1 : a1 < 0
    · rw [if_pos h1, if_pos (Or.inl h1)]; simp only [postbagref01_Bit0.j0, if_true]
    · rw [if_neg h1]
      by_cases h2 : a1 > 63
      · rw [if_pos (Or.inr h2), decide_eq_true h2]; simp only [postbagref01_Bit0.j0, if_true]
      · rw [if_neg (by omega), decide_eq_false h2]
        simp only [postbagref01_Bit0.j0]
        rw [if_neg (by decide), postbagref01_Bit.loop a1.toNat _ _ _ _ hu (by omega) (by omega) (by omega) (by omega)]
  · rw [if_neg hu] at h; exact absurd h (by simp)
theorem postbagref01_Bit.eq {a0 : Int} (h : U64 a0) (a1 : Int) : postbagref01_Bit.f a0 a1 = some (bitOf a0 a1) := if_pos h


theorem postbagref01_Bit.calls (a0 : Int) (a1 : Int) (r : Int) (w : World) (h : postbagref01_Bit.f a0 a1 = some r) :
    Calls Try.prog 69 #[.int .u64 a0, .int .i64 a1] w fun e w' => e = .returned (.int .u64 r) ∧ Drawn0 w w' := by
  obtain ⟨k, hk⟩ := postbagref01_Bit.spec a0 a1 r h
  exact postbagref01_Bit0.calls k a0 a1 r w hk

/-! ### postbagref01_power0: function 77 -/
def postbagref01_power0.l0 : Nat → Int → Int → Int → Option (Int)
  | 0, _, _, _ => none
  | k + 1, x0, x3, x4 => if x4 < x0 then (if x4 < 64 then (postbagref01_power0.l0 k x0 (IntKind.u64.wrap (2 * x3)) (wrap64 (x4 + 1))) else (some x3)) else (some x3)
def postbagref01_power0.f (k : Nat) (a0 : Int) : Option (Int) := postbagref01_power0.l0 k a0 1 0
theorem postbagref01_power0.mono_l : ∀ k, (∀ y0 y1 y2, LeO (postbagref01_power0.l0 k y0 y1 y2) (postbagref01_power0.l0 (k + 1) y0 y1 y2))
  | 0 => fun _ _ _ r h => by simp [postbagref01_power0.l0] at h
  | k + 1 => by
    have ih0 := postbagref01_power0.mono_l k
    · intro y0 y1 y2
      unfold postbagref01_power0.l0
      repeat' first
      | (with_reducible exact ih0 _ _ _)
      | (with_reducible exact LeO.refl _)
      | (with_reducible exact LeO.none _)
      | (with_reducible refine LeO.ite ?_ ?_)
      | (with_reducible refine LeO.bind ?_ (fun _ => ?_))
      | exact ih0 _ _ _
      | exact LeO.none _
      | refine LeO.ite ?_ ?_
      | refine LeO.bind ?_ (fun _ => ?_)
theorem postbagref01_power0.mono : ∀ a0 k, LeO (postbagref01_power0.f k a0) (postbagref01_power0.f (k + 1) a0) := by
  intro a0 k
  have ih0 := postbagref01_power0.mono_l k
  unfold postbagref01_power0.f
  repeat' first
      | (with_reducible exact ih0 _ _ _)
      | (with_reducible exact LeO.refl _)
      | (with_reducible exact LeO.none _)
      | (with_reducible refine LeO.ite ?_ ?_)
      | (with_reducible refine LeO.bind ?_ (fun _ => ?_))
      | exact ih0 _ _ _
      | exact LeO.none _
      | refine LeO.ite ?_ ?_
      | refine LeO.bind ?_ (fun _ => ?_)
set_option maxHeartbeats 8000000 in
set_option maxRecDepth 100000 in
theorem postbagref01_power0.calls (k : Nat) (a0 : Int) (r : Int) (w : World) (h : postbagref01_power0.f k a0 = some r) :
    Calls Try.prog 77 #[.int .i64 a0] w fun e w' => e = .returned (.int .u64 r) ∧ Drawn0 w w' := by
  have H : (postbagref01_power0.l0 k a0 1 0) = some r := h
  clear h
  have H' := Aside0.mk H
  clear H
  go_enter Try.func77, Try.ntmps77
  go_wp2
  go_loopg [3, 4] k (fun kq v3 v4 w' => ∃ (x3_1 : Int) (x4_1 : Int), v3 = .int .u64 x3_1 ∧ v4 = .int .i64 x4_1 ∧ Aside0 (postbagref01_power0.l0 kq a0 x3_1 x4_1 = some r) ∧ Aside0 (kq ≤ k) ∧ Drawn0 w w')
  case atStart => exact ⟨(1), (0), (by first | rfl | (simp; done) | (simp [*]; done)), (by first | rfl | (simp; done) | (simp [*]; done)), H', ⟨Nat.le_refl _⟩, by repeat (first | exact Drawn0.refl _ | apply Drawn0.step)⟩
  case round =>
    clear H'
    obtain ⟨x3_1, x4_1, rfl, rfl, HA, HK1, ⟨m1, rfl⟩⟩ := hrel
    cases gk with
    | zero => exact absurd HA.out (by simp [postbagref01_power0.l0])
    | succ k1 =>
      have H := HA.out
      clear HA
      simp only [postbagref01_power0.l0] at H
      by_cases c2 : x4_1 < a0
      · rw [if_pos c2] at H
        have c2b0 : decide (x4_1 < a0) = true := decide_eq_true c2
        clear c2
        by_cases c3 : x4_1 < 64
        · rw [if_pos c3] at H
          have c3b0 : decide (x4_1 < 64) = true := decide_eq_true c3
          clear c3
          have H' := Aside0.mk H
          clear H
          go_wp2
          go_roundg k1
          case measure => have := HK1.out; omega
          case rel => exact ⟨(IntKind.u64.wrap (2 * x3_1)), (wrap64 (x4_1 + 1)), (by first | rfl | (simp; done) | (simp [*]; done)), (by first | rfl | (simp; done) | (simp [*]; done)), H', ⟨by have := HK1.out; omega⟩, by repeat (first | exact Drawn0.refl _ | apply Drawn0.step)⟩
        · rw [if_neg c3] at H
          have c3b0 : decide (x4_1 < 64) = false := decide_eq_false c3
          clear c3
          obtain rfl := Option.some.inj H
          go_wp2
          go_ret
          exact ⟨by first | rfl | (simp; done) | (simp [*]; done), by repeat (first | exact Drawn0.refl _ | apply Drawn0.step)⟩
      · rw [if_neg c2] at H
        have c2b0 : decide (x4_1 < a0) = false := decide_eq_false c2
        clear c2
        obtain rfl := Option.some.inj H
        go_wp2
        go_ret
        exact ⟨by first | rfl | (simp; done) | (simp [*]; done), by repeat (first | exact Drawn0.refl _ | apply Drawn0.step)⟩
def postbagref01_power.f (a0 : Int) : Option (Int) := some (powOf a0)
theorem postbagref01_power.loop (d : Nat) : ∀ (k : Nat) (n : Int) (i : Nat), i + d = 64 → d < k → (i : Int) ≤ n →
    postbagref01_power0.l0 k n (2 ^ i % 18446744073709551616) i = some (powOf n) := by
  induction d with
  | zero =>
    intro k n i hi hk hn
    obtain ⟨k, rfl⟩ : ∃ m, k = m + 1 := ⟨k - 1, by omega⟩
    obtain rfl : i = 64 := by omega
    simp only [postbagref01_power0.l0, powOf]
    rw [if_neg (show ¬ n < 0 by omega), if_pos (show n ≥ 64 by omega)]
    by_cases h : ((64 : Nat) : Int) < n
    · rw [if_pos h, if_neg (by omega)]; rfl
    · rw [if_neg h]; rfl
  | succ d ih =>
    intro k n i hi hk hn
    obtain ⟨k, rfl⟩ : ∃ m, k = m + 1 := ⟨k - 1, by omega⟩
    simp only [postbagref01_power0.l0]
    by_cases h : (i : Int) < n
    · rw [if_pos h, if_pos (by omega), I64.wrap_eq (by unfold I64; omega), u64w, ← ih k n (i + 1) (by omega) (by omega) (by omega)]
      congr 1
      rw [Int.pow_succ, Int.mul_emod, Int.emod_emod_of_dvd _ (Int.dvd_refl _), ← Int.mul_emod, Int.mul_comm]
    · rw [if_neg h]
      unfold powOf
      rw [if_neg (by omega), if_neg (by omega), show n.toNat = i from by omega, Int.emod_eq_of_lt (Int.le_of_lt (ipos i))]
      exact Int.lt_of_le_of_lt (ipow_le i 63 (by omega)) (by decide)
theorem postbagref01_power.spec (a0 r : Int) (h : postbagref01_power.f a0 = some r) : ∃ k, postbagref01_power0.f k a0 = some r := by
  refine ⟨66, ?_⟩
  rw [← h]
  unfold postbagref01_power.f postbagref01_power0.f
  by_cases h0 : a0 < 0
  · rw [postbagref01_power0.l0, if_neg (by omega), powOf, if_pos h0]
  · exact postbagref01_power.loop 64 66 a0 0 (by omega) (by omega) (by omega)


theorem postbagref01_power.calls (a0 : Int) (r : Int) (w : World) (h : postbagref01_power.f a0 = some r) :
    Calls Try.prog 77 #[.int .i64 a0] w fun e w' => e = .returned (.int .u64 r) ∧ Drawn0 w w' := by
  obtain ⟨k, hk⟩ := postbagref01_power.spec a0 r h
  exact postbagref01_power0.calls k a0 r w hk

end Go.Proofs.Ytjdidadafccepaa.PAluLoads
