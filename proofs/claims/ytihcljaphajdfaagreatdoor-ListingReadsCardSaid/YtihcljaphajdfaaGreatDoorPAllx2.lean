/- DERIVED. The contracts of the Go functions that one law reaches: each call returns what the plain function beside it says, under that theorem's own premises. Written by a program (hp.py) over the kit's printed words. -/
import Derived.Test.YtihcljaphajdfaaGreatDoorPAllx0
namespace Go.Proofs.YtihcljaphajdfaaGreatDoor.PAll
open Go.RowKit Go.Proofs.YtihcljaphajdfaaGreatDoorW.PrintWords Go.Proofs.YtihcljaphajdfaaGreatDoorW.PrintLast Go.Proofs.YtihcljaphajdfaaGreatDoorW.PrintMore Go.Proofs.YtihcljaphajdfaaGreatDoor.M
attribute [local go_sem] max2_int min2_int max_two min_two max_three min_three max_four min_four   -- for this text's walks alone
set_option linter.unusedVariables false
set_option linter.unusedSimpArgs false

-- NOT PRINTED: function 19 (listing_name)

/-! ### listing_parts: function 23 -/
mutual
def listing_parts.j1 : Nat → Int → Bool → Option (Int)
  | 0, _, _ => none
  | k + 1, x0, x6 => if x6 = true then (some 11) else (if x0 ≤ 21 then (some 14) else (if x0 = 50 then (some 8) else (if x0 = 51 then (listing_parts.j2 k x0 (x0 == 51)) else (listing_parts.j2 k x0 (x0 == 52)))))
def listing_parts.j2 : Nat → Int → Bool → Option (Int)
  | 0, _, _ => none
  | k + 1, x0, x33 => if x33 = true then (some 0) else (if x0 = 66 then (some 3) else (if x0 = 77 then (some 3) else (some 7)))
def listing_parts.j0 : Nat → Int → Bool → Option (Int)
  | 0, _, _ => none
  | k + 1, x0, x6 => if x6 = true then (listing_parts.j1 k x0 x6) else (if x0 ≥ 22 then (if x0 ≤ 30 then (listing_parts.j1 k x0 (decide (x0 ≤ 30))) else (if x0 ≥ 41 then (listing_parts.j1 k x0 (decide (x0 ≤ 44))) else (listing_parts.j1 k x0 false))) else (if x0 ≥ 41 then (listing_parts.j1 k x0 (decide (x0 ≤ 44))) else (listing_parts.j1 k x0 false)))
end
def listing_parts.f (k : Nat) (a0 : Int) : Option (Int) := if a0 ≤ 3 then (some 9) else (if a0 = 4 then (listing_parts.j1 k a0 (a0 == 4)) else (if a0 ≥ 11 then (listing_parts.j0 k a0 (decide (a0 ≤ 17))) else (listing_parts.j0 k a0 false)))
theorem listing_parts.mono_l : ∀ k, (∀ y0 y1, LeO (listing_parts.j1 k y0 y1) (listing_parts.j1 (k + 1) y0 y1)) ∧ (∀ y0 y1, LeO (listing_parts.j2 k y0 y1) (listing_parts.j2 (k + 1) y0 y1)) ∧ (∀ y0 y1, LeO (listing_parts.j0 k y0 y1) (listing_parts.j0 (k + 1) y0 y1))
  | 0 => ⟨fun _ _ r h => by simp [listing_parts.j1] at h, fun _ _ r h => by simp [listing_parts.j2] at h, fun _ _ r h => by simp [listing_parts.j0] at h⟩
  | k + 1 => by
    obtain ⟨ih0, ih1, ih2⟩ := listing_parts.mono_l k
    refine ⟨?_, ?_, ?_⟩
    · intro y0 y1
      unfold listing_parts.j1
      repeat' first
      | (with_reducible exact ih0 _ _)
      | (with_reducible exact ih1 _ _)
      | (with_reducible exact ih2 _ _)
      | (with_reducible exact LeO.refl _)
      | (with_reducible exact LeO.none _)
      | (with_reducible refine LeO.ite ?_ ?_)
      | (with_reducible refine LeO.bind ?_ (fun _ => ?_))
      | exact ih0 _ _
      | exact ih1 _ _
      | exact ih2 _ _
      | exact LeO.none _
      | refine LeO.ite ?_ ?_
      | refine LeO.bind ?_ (fun _ => ?_)
    · intro y0 y1
      unfold listing_parts.j2
      repeat' first
      | (with_reducible exact ih0 _ _)
      | (with_reducible exact ih1 _ _)
      | (with_reducible exact ih2 _ _)
      | (with_reducible exact LeO.refl _)
      | (with_reducible exact LeO.none _)
      | (with_reducible refine LeO.ite ?_ ?_)
      | (with_reducible refine LeO.bind ?_ (fun _ => ?_))
      | exact ih0 _ _
      | exact ih1 _ _
      | exact ih2 _ _
      | exact LeO.none _
      | refine LeO.ite ?_ ?_
      | refine LeO.bind ?_ (fun _ => ?_)
    · intro y0 y1
      unfold listing_parts.j0
      repeat' first
      | (with_reducible exact ih0 _ _)
      | (with_reducible exact ih1 _ _)
      | (with_reducible exact ih2 _ _)
      | (with_reducible exact LeO.refl _)
      | (with_reducible exact LeO.none _)
      | (with_reducible refine LeO.ite ?_ ?_)
      | (with_reducible refine LeO.bind ?_ (fun _ => ?_))
      | exact ih0 _ _
      | exact ih1 _ _
      | exact ih2 _ _
      | exact LeO.none _
      | refine LeO.ite ?_ ?_
      | refine LeO.bind ?_ (fun _ => ?_)
theorem listing_parts.mono : ∀ a0 k, LeO (listing_parts.f k a0) (listing_parts.f (k + 1) a0) := by
  intro a0 k
  obtain ⟨ih0, ih1, ih2⟩ := listing_parts.mono_l k
  unfold listing_parts.f
  repeat' first
      | (with_reducible exact ih0 _ _)
      | (with_reducible exact ih1 _ _)
      | (with_reducible exact ih2 _ _)
      | (with_reducible exact LeO.refl _)
      | (with_reducible exact LeO.none _)
      | (with_reducible refine LeO.ite ?_ ?_)
      | (with_reducible refine LeO.bind ?_ (fun _ => ?_))
      | exact ih0 _ _
      | exact ih1 _ _
      | exact ih2 _ _
      | exact LeO.none _
      | refine LeO.ite ?_ ?_
      | refine LeO.bind ?_ (fun _ => ?_)
set_option maxHeartbeats 8000000 in
set_option maxRecDepth 100000 in
theorem listing_parts.calls (k : Nat) (a0 : Int) (r : Int) (w : World) (h : listing_parts.f k a0 = some r) :
    Calls Tryz.prog 23 #[.int .i64 a0] w fun e w' => e = .returned (.int .i64 r) ∧ Drawn0 w w' := by
  have H : (if a0 ≤ 3 then (some 9) else (if a0 = 4 then (listing_parts.j1 k a0 (a0 == 4)) else (if a0 ≥ 11 then (listing_parts.j0 k a0 (decide (a0 ≤ 17))) else (listing_parts.j0 k a0 false)))) = some r := h
  clear h
  by_cases c2 : a0 ≤ 3
  · rw [if_pos c2] at H
    have c2b0 : decide (a0 ≤ 3) = true := decide_eq_true c2
    clear c2
    obtain rfl := Option.some.inj H
    go_enter Tryz.func23, Tryz.ntmps23
    go_wp2
    go_ret
    exact ⟨by first | rfl | (simp; done) | (simp [*]; done), by repeat (first | exact Drawn0.refl _ | apply Drawn0.step)⟩
  · rw [if_neg c2] at H
    have c2b0 : decide (a0 ≤ 3) = false := decide_eq_false c2
    clear c2
    have HC3 := Aside0.mk H
    clear H
    go_enter Tryz.func23, Tryz.ntmps23
    go_upto_if 6 with (fail)
    go_cut [6] (fun v6 wc => ∃ (kq : Nat) (x6_2 : Bool), v6 = .bool x6_2 ∧ Aside0 (listing_parts.j1 kq a0 x6_2 = some r) ∧ Aside0 (kq ≤ k) ∧ Drawn0 w wc)
    case first =>
      have H := HC3.out
      clear HC3
      by_cases c4 : a0 = 4
      · rw [if_pos c4] at H
        have c4b0 : (a0 == 4) = true := beq_iff_eq.mpr c4
        have c4b1 : (a0 != 4) = false := bne_eq_false_iff_eq.mpr c4
        clear c4
        (first | rw [c4b0] | (simp only [i64_w, i32_w]; rw [c4b0]) | skip)
        have H' := Aside0.mk H
        clear H
        go_wp2
        go_meet
        case rel => exact ⟨_, ((a0 == 4)), (by first | rfl | (simp; done) | (simp [*]; done)), H', ⟨by first | omega | exact Nat.le_refl _⟩, by repeat (first | exact Drawn0.refl _ | apply Drawn0.step)⟩
      · rw [if_neg c4] at H
        have c4b0 : (a0 == 4) = false := beq_eq_false_iff_ne.mpr c4
        have c4b1 : (a0 != 4) = true := bne_iff_ne.mpr c4
        (first | rw [c4b0] | (simp only [i64_w, i32_w]; rw [c4b0]) | skip)
        have HC5 := Aside0.mk H
        clear H
        go_upto_region 4 with (fail)
        go_cut [6] (fun v6 wc => ∃ (kq : Nat) (x6_4 : Bool), v6 = .bool x6_4 ∧ Aside0 (listing_parts.j0 kq a0 x6_4 = some r) ∧ Aside0 (kq ≤ k) ∧ Drawn0 w wc)
        case first =>
          have H := HC5.out
          clear HC5
          by_cases c6 : a0 ≥ 11
          · rw [if_pos c6] at H
            have c6b0 : decide (11 ≤ a0) = true := decide_eq_true c6
            clear c6
            (first | rw [c6b0] | (simp only [i64_w, i32_w]; rw [c6b0]) | skip)
            have H' := Aside0.mk H
            clear H
            go_wp2
            go_meet
            case rel => exact ⟨_, (decide (a0 ≤ 17)), (by first | rfl | (simp; done) | (simp [*]; done)), H', ⟨by first | omega | exact Nat.le_refl _⟩, by repeat (first | exact Drawn0.refl _ | apply Drawn0.step)⟩
          · rw [if_neg c6] at H
            have c6b0 : decide (11 ≤ a0) = false := decide_eq_false c6
            clear c6
            (first | rw [c6b0] | (simp only [i64_w, i32_w]; rw [c6b0]) | skip)
            have H' := Aside0.mk H
            clear H
            go_wp2
            go_meet
            case rel => exact ⟨_, (false), (by first | rfl | (simp; done) | (simp [*]; done)), H', ⟨by first | omega | exact Nat.le_refl _⟩, by repeat (first | exact Drawn0.refl _ | apply Drawn0.step)⟩
        case rest =>
          clear HC5
          try clear c2
          try clear c2b0
          try clear p2
          try clear c4
          try clear c4b0
          try clear c4b1
          try clear c6
          try clear c6b0
          obtain ⟨kq, x6_4, rfl, HA, HJ4, ⟨mc4, rfl⟩⟩ := hcut
          cases kq with
          | zero => exact absurd HA.out (by simp [listing_parts.j0])
          | succ kj4 =>
            have H := HA.out
            clear HA
            simp only [listing_parts.j0] at H
            by_cases c7 : x6_4 = true
            · subst c7
              have H1 : (listing_parts.j1 kj4 a0 true) = some r := by rw [if_pos rfl] at H; exact H
              clear H
              have H := H1
              clear H1
              have H' := Aside0.mk H
              clear H
              go_wp2
              go_meet
              case rel => exact ⟨_, (true), (by first | rfl | (simp; done) | (simp [*]; done)), H', ⟨by have := HJ4.out; first | omega | exact Nat.le_refl _⟩, by repeat (first | exact Drawn0.refl _ | apply Drawn0.step)⟩
            · replace c7 := Bool.eq_false_iff.mpr c7
              subst c7
              have H1 : (if a0 ≥ 22 then (if a0 ≤ 30 then (listing_parts.j1 kj4 a0 (decide (a0 ≤ 30))) else (if a0 ≥ 41 then (listing_parts.j1 kj4 a0 (decide (a0 ≤ 44))) else (listing_parts.j1 kj4 a0 false))) else (if a0 ≥ 41 then (listing_parts.j1 kj4 a0 (decide (a0 ≤ 44))) else (listing_parts.j1 kj4 a0 false))) = some r := by rw [if_neg (show ¬ (false = true) by decide)] at H; exact H
              clear H
              have H := H1
              clear H1
              by_cases c8 : a0 ≥ 22
              · rw [if_pos c8] at H
                have c8b0 : decide (22 ≤ a0) = true := decide_eq_true c8
                clear c8
                by_cases c9 : a0 ≤ 30
                · rw [if_pos c9] at H
                  have c9b0 : decide (a0 ≤ 30) = true := decide_eq_true c9
                  clear c9
                  have H' := Aside0.mk H
                  clear H
                  go_wp2
                  go_meet
                  case rel => exact ⟨_, (decide (a0 ≤ 30)), (by first | rfl | (simp; done) | (simp [*]; done)), H', ⟨by have := HJ4.out; first | omega | exact Nat.le_refl _⟩, by repeat (first | exact Drawn0.refl _ | apply Drawn0.step)⟩
                · rw [if_neg c9] at H
                  have c9b0 : decide (a0 ≤ 30) = false := decide_eq_false c9
                  clear c9
                  by_cases c10 : a0 ≥ 41
                  · rw [if_pos c10] at H
                    have c10b0 : decide (41 ≤ a0) = true := decide_eq_true c10
                    clear c10
                    have H' := Aside0.mk H
                    clear H
                    go_wp2
                    go_meet
                    case rel => exact ⟨_, (decide (a0 ≤ 44)), (by first | rfl | (simp; done) | (simp [*]; done)), H', ⟨by have := HJ4.out; first | omega | exact Nat.le_refl _⟩, by repeat (first | exact Drawn0.refl _ | apply Drawn0.step)⟩
                  · rw [if_neg c10] at H
                    have c10b0 : decide (41 ≤ a0) = false := decide_eq_false c10
                    clear c10
                    have H' := Aside0.mk H
                    clear H
                    go_wp2
                    go_meet
                    case rel => exact ⟨_, (false), (by first | rfl | (simp; done) | (simp [*]; done)), H', ⟨by have := HJ4.out; first | omega | exact Nat.le_refl _⟩, by repeat (first | exact Drawn0.refl _ | apply Drawn0.step)⟩
              · rw [if_neg c8] at H
                have c8b0 : decide (22 ≤ a0) = false := decide_eq_false c8
                clear c8
                by_cases c11 : a0 ≥ 41
                · rw [if_pos c11] at H
                  have c11b0 : decide (41 ≤ a0) = true := decide_eq_true c11
                  clear c11
                  have H' := Aside0.mk H
                  clear H
                  go_wp2
                  go_meet
                  case rel => exact ⟨_, (decide (a0 ≤ 44)), (by first | rfl | (simp; done) | (simp [*]; done)), H', ⟨by have := HJ4.out; first | omega | exact Nat.le_refl _⟩, by repeat (first | exact Drawn0.refl _ | apply Drawn0.step)⟩
                · rw [if_neg c11] at H
                  have c11b0 : decide (41 ≤ a0) = false := decide_eq_false c11
                  clear c11
                  have H' := Aside0.mk H
                  clear H
                  go_wp2
                  go_meet
                  case rel => exact ⟨_, (false), (by first | rfl | (simp; done) | (simp [*]; done)), H', ⟨by have := HJ4.out; first | omega | exact Nat.le_refl _⟩, by repeat (first | exact Drawn0.refl _ | apply Drawn0.step)⟩
    case rest =>
      clear HC3
      try clear c1
      try clear c2
      try clear c2b0
      try clear p2
      try clear c4
      try clear c4b0
      try clear c4b1
      try clear c6
      try clear c6b0
      try clear c7
      try clear c8
      try clear c8b0
      try clear c9
      try clear c9b0
      try clear c10
      try clear c10b0
      try clear c11
      try clear c11b0
      try clear p2
      obtain ⟨kq, x6_2, rfl, HA, HJ2, ⟨mc2, rfl⟩⟩ := hcut
      cases kq with
      | zero => exact absurd HA.out (by simp [listing_parts.j1])
      | succ kj2 =>
        have H := HA.out
        clear HA
        simp only [listing_parts.j1] at H
        by_cases c12 : x6_2 = true
        · subst c12
          have H1 : (some 11) = some r := by rw [if_pos rfl] at H; exact H
          clear H
          have H := H1
          clear H1
          obtain rfl := Option.some.inj H
          go_wp2
          go_ret
          exact ⟨by first | rfl | (simp; done) | (simp [*]; done), by repeat (first | exact Drawn0.refl _ | apply Drawn0.step)⟩
        · replace c12 := Bool.eq_false_iff.mpr c12
          subst c12
          have H1 : (if a0 ≤ 21 then (some 14) else (if a0 = 50 then (some 8) else (if a0 = 51 then (listing_parts.j2 kj2 a0 (a0 == 51)) else (listing_parts.j2 kj2 a0 (a0 == 52))))) = some r := by rw [if_neg (show ¬ (false = true) by decide)] at H; exact H
          clear H
          have H := H1
          clear H1
          by_cases c13 : a0 ≤ 21
          · rw [if_pos c13] at H
            have c13b0 : decide (a0 ≤ 21) = true := decide_eq_true c13
            clear c13
            obtain rfl := Option.some.inj H
            go_wp2
            go_ret
            exact ⟨by first | rfl | (simp; done) | (simp [*]; done), by repeat (first | exact Drawn0.refl _ | apply Drawn0.step)⟩
          · rw [if_neg c13] at H
            have c13b0 : decide (a0 ≤ 21) = false := decide_eq_false c13
            clear c13
            by_cases c14 : a0 = 50
            · rw [if_pos c14] at H
              have c14b0 : (a0 == 50) = true := beq_iff_eq.mpr c14
              have c14b1 : (a0 != 50) = false := bne_eq_false_iff_eq.mpr c14
              clear c14
              obtain rfl := Option.some.inj H
              go_wp2
              go_ret
              exact ⟨by first | rfl | (simp; done) | (simp [*]; done), by repeat (first | exact Drawn0.refl _ | apply Drawn0.step)⟩
            · rw [if_neg c14] at H
              have c14b0 : (a0 == 50) = false := beq_eq_false_iff_ne.mpr c14
              have c14b1 : (a0 != 50) = true := bne_iff_ne.mpr c14
              have HC15 := Aside0.mk H
              clear H
              go_upto_if 33 with (fail)
              go_cut [33] (fun v33 wc => ∃ (kq : Nat) (x33_14 : Bool), v33 = .bool x33_14 ∧ Aside0 (listing_parts.j2 kq a0 x33_14 = some r) ∧ Aside0 (kq ≤ kj2) ∧ Drawn0 w wc)
              case first =>
                have H := HC15.out
                clear HC15
                by_cases c16 : a0 = 51
                · rw [if_pos c16] at H
                  have c16b0 : (a0 == 51) = true := beq_iff_eq.mpr c16
                  have c16b1 : (a0 != 51) = false := bne_eq_false_iff_eq.mpr c16
                  clear c16
                  (first | rw [c16b0] | (simp only [i64_w, i32_w]; rw [c16b0]) | skip)
                  have H' := Aside0.mk H
                  clear H
                  go_wp2
                  go_meet
                  case rel => exact ⟨_, ((a0 == 51)), (by first | rfl | (simp; done) | (simp [*]; done)), H', ⟨by have := HJ2.out; first | omega | exact Nat.le_refl _⟩, by repeat (first | exact Drawn0.refl _ | apply Drawn0.step)⟩
                · rw [if_neg c16] at H
                  have c16b0 : (a0 == 51) = false := beq_eq_false_iff_ne.mpr c16
                  have c16b1 : (a0 != 51) = true := bne_iff_ne.mpr c16
                  (first | rw [c16b0] | (simp only [i64_w, i32_w]; rw [c16b0]) | skip)
                  have H' := Aside0.mk H
                  clear H
                  go_wp2
                  go_meet
                  case rel => exact ⟨_, ((a0 == 52)), (by first | rfl | (simp; done) | (simp [*]; done)), H', ⟨by have := HJ2.out; first | omega | exact Nat.le_refl _⟩, by repeat (first | exact Drawn0.refl _ | apply Drawn0.step)⟩
              case rest =>
                clear HC15
                try clear c1
                try clear c2
                try clear c2b0
                try clear p2
                try clear c4
                try clear c4b0
                try clear c4b1
                try clear c6
                try clear c6b0
                try clear c7
                try clear c8
                try clear c8b0
                try clear c9
                try clear c9b0
                try clear c10
                try clear c10b0
                try clear c11
                try clear c11b0
                try clear c12
                try clear c13
                try clear c13b0
                try clear c14
                try clear c14b0
                try clear c14b1
                try clear c16
                try clear c16b0
                try clear c16b1
                try clear p2
                obtain ⟨kq, x33_14, rfl, HA, HJ14, ⟨mc14, rfl⟩⟩ := hcut
                cases kq with
                | zero => exact absurd HA.out (by simp [listing_parts.j2])
                | succ kj14 =>
                  have H := HA.out
                  clear HA
                  simp only [listing_parts.j2] at H
                  by_cases c17 : x33_14 = true
                  · subst c17
                    have H1 : (some 0) = some r := by rw [if_pos rfl] at H; exact H
                    clear H
                    have H := H1
                    clear H1
                    obtain rfl := Option.some.inj H
                    go_wp2
                    go_ret
                    exact ⟨by first | rfl | (simp; done) | (simp [*]; done), by repeat (first | exact Drawn0.refl _ | apply Drawn0.step)⟩
                  · replace c17 := Bool.eq_false_iff.mpr c17
                    subst c17
                    have H1 : (if a0 = 66 then (some 3) else (if a0 = 77 then (some 3) else (some 7))) = some r := by rw [if_neg (show ¬ (false = true) by decide)] at H; exact H
                    clear H
                    have H := H1
                    clear H1
                    by_cases c18 : a0 = 66
                    · rw [if_pos c18] at H
                      have c18b0 : (a0 == 66) = true := beq_iff_eq.mpr c18
                      have c18b1 : (a0 != 66) = false := bne_eq_false_iff_eq.mpr c18
                      clear c18
                      obtain rfl := Option.some.inj H
                      go_wp2
                      go_ret
                      exact ⟨by first | rfl | (simp; done) | (simp [*]; done), by repeat (first | exact Drawn0.refl _ | apply Drawn0.step)⟩
                    · rw [if_neg c18] at H
                      have c18b0 : (a0 == 66) = false := beq_eq_false_iff_ne.mpr c18
                      have c18b1 : (a0 != 66) = true := bne_iff_ne.mpr c18
                      by_cases c19 : a0 = 77
                      · rw [if_pos c19] at H
                        have c19b0 : (a0 == 77) = true := beq_iff_eq.mpr c19
                        have c19b1 : (a0 != 77) = false := bne_eq_false_iff_eq.mpr c19
                        clear c19
                        obtain rfl := Option.some.inj H
                        go_wp2
                        go_ret
                        exact ⟨by first | rfl | (simp; done) | (simp [*]; done), by repeat (first | exact Drawn0.refl _ | apply Drawn0.step)⟩
                      · rw [if_neg c19] at H
                        have c19b0 : (a0 == 77) = false := beq_eq_false_iff_ne.mpr c19
                        have c19b1 : (a0 != 77) = true := bne_iff_ne.mpr c19
                        obtain rfl := Option.some.inj H
                        go_wp2
                        go_ret
                        exact ⟨by first | rfl | (simp; done) | (simp [*]; done), by repeat (first | exact Drawn0.refl _ | apply Drawn0.step)⟩

/-! ### inst_of: function 42 -/
def inst_of.f (a0 : Int) : Option (Int × Int × Int × Int) := some (formOf a0, codeOf a0, f3Of a0, f7Of a0)
set_option maxHeartbeats 8000000 in
set_option maxRecDepth 20000 in
theorem inst_of.calls (a0 : Int) (r1 : Int) (r2 : Int) (r3 : Int) (r4 : Int) (w : World) (h : inst_of.f a0 = some (r1, r2, r3, r4)) :
    Calls Tryz.prog 42 #[.int .i64 a0] w fun e w' => e = .returned (.agg #[.int .i64 r1, .int .i64 r2, .int .i64 r3, .int .i64 r4]) ∧ Below w.heap.size w w' := by
  obtain ⟨rfl, rfl, rfl, rfl⟩ : formOf a0 = r1 ∧ codeOf a0 = r2 ∧ f3Of a0 = r3 ∧ f7Of a0 = r4 := by simpa only [inst_of.f, Option.some.injEq, Prod.mk.injEq] using h
  clear h
  have hz : ∀ W, (zeroValue 93).run Tryz.prog W = .ok (.agg (Array.replicate 348 (.int .i64 0))) W := fun _ => by kernel_rfl
  go_enter Tryz.func42, Tryz.ntmps42
  iterate 11 go_step
  generalize (List.toArray (List.append _ _)) = OPS
  refine wpList_builds_take 88 _ _ _ { tmps := #[.int .i64 a0, undef, .pointer (some ⟨w.heap.size, 0, none⟩), undef, instRow 0, instRow 1, instRow 2, instRow 3, instRow 4, instRow 5, instRow 6, instRow 7, instRow 8, instRow 9, instRow 10, instRow 11, instRow 12, instRow 13, instRow 14, instRow 15, instRow 16, instRow 17, instRow 18, instRow 19, instRow 20, instRow 21, instRow 22, instRow 23, instRow 24, instRow 25, instRow 26, instRow 27, instRow 28, instRow 29, instRow 30, instRow 31, instRow 32, instRow 33, instRow 34, instRow 35, instRow 36, instRow 37, instRow 38, instRow 39, instRow 40, instRow 41, instRow 42, instRow 43, instRow 44, instRow 45, instRow 46, instRow 47, instRow 48, instRow 49, instRow 50, instRow 51, instRow 52, instRow 53, instRow 54, instRow 55, instRow 56, instRow 57, instRow 58, instRow 59, instRow 60, instRow 61, instRow 62, instRow 63, instRow 64, instRow 65, instRow 66, instRow 67, instRow 68, instRow 69, instRow 70, instRow 71, instRow 72, instRow 73, instRow 74, instRow 75, instRow 76, instRow 77, instRow 78, instRow 79, instRow 80, instRow 81, instRow 82, instRow 83, instRow 84, instRow 85, instRow 86, .agg instCells, undef, undef, undef, undef, undef, undef, undef, undef, undef, undef, undef], defers := [] } ?h rfl ?_
  case h => kernel_rfl
  simp only [List.append_eq, List.cons_append, List.nil_append, List.drop_succ_cons, List.drop_zero]
  go_step
  go_step
  go_step
  refine wpList_store_row rfl 93 _ _ rfl (w.heap.size + 1) instCells rfl rfl 93 (Array.replicate 348 (.int .i64 0)) ?hblk (by kernel_rfl) (by kernel_rfl) (by kernel_rfl) ?_
  case hblk =>
    have h := Blk.new (w.alloc (.cells #[.int .i64 0, .int .i64 0, .int .i64 0, .int .i64 0] 78)) (Array.replicate 348 (.int .i64 0)) 93
    rw [World.size_alloc] at h
    exact h
  generalize hX : World.setRow _ _ _ = X
  have B1 : Blk X w.heap.size #[.int .i64 0, .int .i64 0, .int .i64 0, .int .i64 0] 78 := by
    have h := ((Blk.new w #[.int .i64 0, .int .i64 0, .int .i64 0, .int .i64 0] 78).alloc (.cells instCells 93))
    rw [← World.setRow_alloc_new _ (Array.replicate 348 (.int .i64 0)), World.size_alloc] at h
    exact hX ▸ h
  have B2 : Blk X (w.heap.size + 1) instCells 93 := by
    have h := Blk.new (w.alloc (.cells #[.int .i64 0, .int .i64 0, .int .i64 0, .int .i64 0] 78)) instCells 93
    rw [← World.setRow_alloc_new _ (Array.replicate 348 (.int .i64 0)), World.size_alloc] at h
    exact hX ▸ h
  have hb : Below w.heap.size w X := by
    have h := ((Below.refl w.heap.size w).alloc (Nat.le_refl _) (.cells #[.int .i64 0, .int .i64 0, .int .i64 0, .int .i64 0] 78)).alloc (by simp) (.cells instCells 93)
    rw [← World.setRow_alloc_new _ (Array.replicate 348 (.int .i64 0)), World.size_alloc] at h
    exact hX ▸ h
  clear hX hz
  have c1 := B1.cell
  have f1 := B1.frozen
  have l1 := B1.lt
  by_cases hr : 1 ≤ a0 ∧ a0 ≤ 87
  · have q : ∀ j, j < 4 → X.cell? ⟨w.heap.size + 1, (a0.toNat - 1) * 4 + j, none⟩ = some (.int .i64 (instNums.getD (4 * (a0 - 1).toNat + j) 0)) := by
      intro j hj
      have h := B2.cell ((a0.toNat - 1) * 4 + j)
      have e1 : a0.toNat - 1 = (a0 - 1).toNat := by omega
      rw [e1, Nat.mul_comm] at h ⊢
      rw [h]
      have hl : 4 * (a0 - 1).toNat + j < instNums.length := by
        have e : instNums.length = 348 := by decide +kernel
        omega
      simp only [instCells, List.getElem?_toArray, List.getElem?_map, List.getElem?_eq_getElem hl, List.getD_eq_getElem?_getD, Option.map_some, Option.getD_some]
    have q0 : X.cell? ⟨w.heap.size + 1, (a0.toNat - 1) * 4, none⟩ = some (.int .i64 (formOf a0)) := by rw [formOf, if_pos hr]; exact q 0 (by omega)
    have q1 : X.cell? ⟨w.heap.size + 1, (a0.toNat - 1) * 4 + 1, none⟩ = some (.int .i64 (codeOf a0)) := by rw [codeOf, if_pos hr]; exact q 1 (by omega)
    have q2 : X.cell? ⟨w.heap.size + 1, (a0.toNat - 1) * 4 + 2, none⟩ = some (.int .i64 (f3Of a0)) := by rw [f3Of, if_pos hr]; exact q 2 (by omega)
    have q3 : X.cell? ⟨w.heap.size + 1, (a0.toNat - 1) * 4 + 3, none⟩ = some (.int .i64 (f7Of a0)) := by rw [f7Of, if_pos hr]; exact q 3 (by omega)
    clear q B2
    have hb := Lib.hid hb
    obtain ⟨hr1, hr2⟩ := hr
    go_wp2
    (try simp only [Exit.inBlock, Exit.then])
    generalize hY : World.setCell _ _ _ = Y
    have BY : Blk Y w.heap.size #[.int .i64 (formOf a0), .int .i64 (codeOf a0), .int .i64 (f3Of a0), .int .i64 (f7Of a0)] 78 := by
      have h := (((B1.set 0 (.int .i64 (formOf a0))).set 1 (.int .i64 (codeOf a0))).set 2 (.int .i64 (f3Of a0))).set 3 (.int .i64 (f7Of a0))
      rw [← hY]
      simpa using h
    have hbY : Below w.heap.size w Y := by
      rw [← hY]
      have hb := hb.out
      go_grown
    have cY := BY.cell
    refine bodyPost_ret (v := .agg #[.int .i64 (formOf a0), .int .i64 (codeOf a0), .int .i64 (f3Of a0), .int .i64 (f7Of a0)]) (by simp [results, Tryz.results42, go_sem, cY]) rfl ?_
    exact ⟨rfl, hbY⟩
  · clear B2
    have z1 : formOf a0 = 0 := by rw [formOf, if_neg hr]
    have z2 : codeOf a0 = 0 := by rw [codeOf, if_neg hr]
    have z3 : f3Of a0 = 0 := by rw [f3Of, if_neg hr]
    have z4 : f7Of a0 = 0 := by rw [f7Of, if_neg hr]
    have z := Lib.hid (And.intro z1 (And.intro z2 (And.intro z3 z4)))
    clear z1 z2 z3 z4
    have hb := Lib.hid hb
    go_wp2
    all_goals (
      (try simp only [Exit.inBlock, Exit.then])
      generalize hY : World.setCell _ _ _ = Y
      have BY : Blk Y w.heap.size #[.int .i64 0, .int .i64 0, .int .i64 0, .int .i64 0] 78 := by
        have h := (((B1.set 0 (.int .i64 0)).set 1 (.int .i64 0)).set 2 (.int .i64 0)).set 3 (.int .i64 0)
        rw [← hY]
        simpa using h
      have hbY : Below w.heap.size w Y := by
        rw [← hY]
        have hb := hb.out
        go_grown
      have cY := BY.cell
      refine bodyPost_ret (v := .agg #[.int .i64 0, .int .i64 0, .int .i64 0, .int .i64 0]) (by simp [results, Tryz.results42, go_sem, cY]) rfl ?_
      obtain ⟨z1, z2, z3, z4⟩ := z.out
      rw [z1, z2, z3, z4]
      exact ⟨rfl, hbY⟩)


end Go.Proofs.YtihcljaphajdfaaGreatDoor.PAll
