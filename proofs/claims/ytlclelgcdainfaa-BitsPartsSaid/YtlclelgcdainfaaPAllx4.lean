/- DERIVED. The contracts of the Go functions that one law reaches: each call returns what the plain function beside it says, under that theorem's own premises. Written by a program (hp.py) over the kit's printed words. -/
import Derived.Test.YtlclelgcdainfaaPAllx0
import Derived.Test.YtlclelgcdainfaaPAllx1
import Derived.Test.YtlclelgcdainfaaPAllx2
import Derived.Test.YtlclelgcdainfaaPAllx3
namespace Go.Proofs.Ytlclelgcdainfaa.PAll
open Go.RowKit Go.Proofs.YtlclelgcdainfaaW.PrintWords Go.Proofs.YtlclelgcdainfaaW.PrintLast Go.Proofs.YtlclelgcdainfaaW.PrintMore Go.Proofs.Ytlclelgcdainfaa.M
attribute [local go_sem] max2_int min2_int max_two min_two max_three min_three max_four min_four   -- for this text's walks alone
set_option linter.unusedVariables false
set_option linter.unusedSimpArgs false

/-! ### postbagref01_Place0: function 21 -/
mutual
def postbagref01_Place0.j0 : Nat → Int → Int → Int → Int → Bool → Option (Int)
  | 0, _, _, _, _, _ => none
  | k + 1, x0, x1, x2, x3, x19 => if x19 = true then (some x0) else (postbagref01_Place0.l0 k x0 x1 x2 x3 0)
def postbagref01_Place0.l0 : Nat → Int → Int → Int → Int → Int → Option (Int)
  | 0, _, _, _, _, _ => none
  | k + 1, x0, x1, x2, x3, x9 => if x9 < x2 then (postbagref01_Place0.j2 k x0 x1 x2 x3 x9 (decide (x9 < (wrap64 (64 - x1))))) else (postbagref01_Place0.j2 k x0 x1 x2 x3 x9 false)
def postbagref01_Place0.j2 : Nat → Int → Int → Int → Int → Int → Bool → Option (Int)
  | 0, _, _, _, _, _, _ => none
  | k + 1, x0, x1, x2, x3, x9, x29 => if x29 = true then ((postbagref01_Bit.f x0 (wrap64 (x1 + x9))).bind fun t147 => ((postbagref01_power.f (wrap64 (x1 + x9))).bind fun t148 => ((postbagref01_Bit.f x3 x9).bind fun t149 => ((postbagref01_power.f (wrap64 (x1 + x9))).bind fun t150 => (postbagref01_Place0.l0 k (IntKind.u64.wrap ((IntKind.u64.wrap (x0 - (IntKind.u64.wrap (t147 * t148)))) + (IntKind.u64.wrap (t149 * t150)))) x1 x2 x3 (wrap64 (x9 + 1))))))) else (some x0)
end
def postbagref01_Place0.f (k : Nat) (a0 : Int) (a1 : Int) (a2 : Int) (a3 : Int) : Option (Int) := if a1 < 0 then (postbagref01_Place0.j0 k a0 a1 a2 a3 true) else (if a1 > 63 then (postbagref01_Place0.j0 k a0 a1 a2 a3 true) else (postbagref01_Place0.j0 k a0 a1 a2 a3 (decide (a2 < 1))))
theorem postbagref01_Place0.mono_l : ∀ k, (∀ y0 y1 y2 y3 y4, LeO (postbagref01_Place0.j0 k y0 y1 y2 y3 y4) (postbagref01_Place0.j0 (k + 1) y0 y1 y2 y3 y4)) ∧ (∀ y0 y1 y2 y3 y4, LeO (postbagref01_Place0.l0 k y0 y1 y2 y3 y4) (postbagref01_Place0.l0 (k + 1) y0 y1 y2 y3 y4)) ∧ (∀ y0 y1 y2 y3 y4 y5, LeO (postbagref01_Place0.j2 k y0 y1 y2 y3 y4 y5) (postbagref01_Place0.j2 (k + 1) y0 y1 y2 y3 y4 y5))
  | 0 => ⟨fun _ _ _ _ _ r h => by simp [postbagref01_Place0.j0] at h, fun _ _ _ _ _ r h => by simp [postbagref01_Place0.l0] at h, fun _ _ _ _ _ _ r h => by simp [postbagref01_Place0.j2] at h⟩
  | k + 1 => by
    obtain ⟨ih0, ih1, ih2⟩ := postbagref01_Place0.mono_l k
    refine ⟨?_, ?_, ?_⟩
    · intro y0 y1 y2 y3 y4
      unfold postbagref01_Place0.j0
      repeat' first
      | (with_reducible exact ih0 _ _ _ _ _)
      | (with_reducible exact ih1 _ _ _ _ _)
      | (with_reducible exact ih2 _ _ _ _ _ _)
      | (with_reducible exact LeO.refl _)
      | (with_reducible exact LeO.none _)
      | (with_reducible refine LeO.ite ?_ ?_)
      | (with_reducible refine LeO.bind ?_ (fun _ => ?_))
      | exact ih0 _ _ _ _ _
      | exact ih1 _ _ _ _ _
      | exact ih2 _ _ _ _ _ _
      | exact LeO.none _
      | refine LeO.ite ?_ ?_
      | refine LeO.bind ?_ (fun _ => ?_)
    · intro y0 y1 y2 y3 y4
      unfold postbagref01_Place0.l0
      repeat' first
      | (with_reducible exact ih0 _ _ _ _ _)
      | (with_reducible exact ih1 _ _ _ _ _)
      | (with_reducible exact ih2 _ _ _ _ _ _)
      | (with_reducible exact LeO.refl _)
      | (with_reducible exact LeO.none _)
      | (with_reducible refine LeO.ite ?_ ?_)
      | (with_reducible refine LeO.bind ?_ (fun _ => ?_))
      | exact ih0 _ _ _ _ _
      | exact ih1 _ _ _ _ _
      | exact ih2 _ _ _ _ _ _
      | exact LeO.none _
      | refine LeO.ite ?_ ?_
      | refine LeO.bind ?_ (fun _ => ?_)
    · intro y0 y1 y2 y3 y4 y5
      unfold postbagref01_Place0.j2
      repeat' first
      | (with_reducible exact ih0 _ _ _ _ _)
      | (with_reducible exact ih1 _ _ _ _ _)
      | (with_reducible exact ih2 _ _ _ _ _ _)
      | (with_reducible exact LeO.refl _)
      | (with_reducible exact LeO.none _)
      | (with_reducible refine LeO.ite ?_ ?_)
      | (with_reducible refine LeO.bind ?_ (fun _ => ?_))
      | exact ih0 _ _ _ _ _
      | exact ih1 _ _ _ _ _
      | exact ih2 _ _ _ _ _ _
      | exact LeO.none _
      | refine LeO.ite ?_ ?_
      | refine LeO.bind ?_ (fun _ => ?_)
theorem postbagref01_Place0.mono : ∀ a0 a1 a2 a3 k, LeO (postbagref01_Place0.f k a0 a1 a2 a3) (postbagref01_Place0.f (k + 1) a0 a1 a2 a3) := by
  intro a0 a1 a2 a3 k
  obtain ⟨ih0, ih1, ih2⟩ := postbagref01_Place0.mono_l k
  unfold postbagref01_Place0.f
  repeat' first
      | (with_reducible exact ih0 _ _ _ _ _)
      | (with_reducible exact ih1 _ _ _ _ _)
      | (with_reducible exact ih2 _ _ _ _ _ _)
      | (with_reducible exact LeO.refl _)
      | (with_reducible exact LeO.none _)
      | (with_reducible refine LeO.ite ?_ ?_)
      | (with_reducible refine LeO.bind ?_ (fun _ => ?_))
      | exact ih0 _ _ _ _ _
      | exact ih1 _ _ _ _ _
      | exact ih2 _ _ _ _ _ _
      | exact LeO.none _
      | refine LeO.ite ?_ ?_
      | refine LeO.bind ?_ (fun _ => ?_)
set_option maxHeartbeats 8000000 in
set_option maxRecDepth 100000 in
theorem postbagref01_Place0.calls (k : Nat) (a0 : Int) (a1 : Int) (a2 : Int) (a3 : Int) (r : Int) (w : World) (h : postbagref01_Place0.f k a0 a1 a2 a3 = some r) :
    Calls Try.prog 21 #[.int .u64 a0, .int .i64 a1, .int .i64 a2, .int .u64 a3] w fun e w' => e = .returned (.int .u64 r) ∧ Drawn0 w w' := by
  have H : (if a1 < 0 then (postbagref01_Place0.j0 k a0 a1 a2 a3 true) else (if a1 > 63 then (postbagref01_Place0.j0 k a0 a1 a2 a3 true) else (postbagref01_Place0.j0 k a0 a1 a2 a3 (decide (a2 < 1))))) = some r := h
  clear h
  have HC5 := Aside0.mk H
  clear H
  go_enter Try.func21, Try.ntmps21
  go_upto_region 1 with (fail)
  go_cut [19] (fun v19 wc => ∃ (kq : Nat) (x19_4 : Bool), v19 = .bool x19_4 ∧ Aside0 (postbagref01_Place0.j0 kq a0 a1 a2 a3 x19_4 = some r) ∧ Aside0 (kq ≤ k) ∧ Drawn0 w wc)
  case first =>
    have H := HC5.out
    clear HC5
    by_cases c6 : a1 < 0
    · rw [if_pos c6] at H
      have c6b0 : decide (a1 < 0) = true := decide_eq_true c6
      clear c6
      (first | rw [c6b0] | (simp only [i64_w, i32_w]; rw [c6b0]) | skip)
      have H' := Aside0.mk H
      clear H
      go_wp2
      go_meet
      case rel => exact ⟨_, (true), (by first | rfl | (simp; done) | (simp [*]; done)), H', ⟨by first | omega | exact Nat.le_refl _⟩, by repeat (first | exact Drawn0.refl _ | apply Drawn0.step)⟩
    · rw [if_neg c6] at H
      have c6b0 : decide (a1 < 0) = false := decide_eq_false c6
      clear c6
      (first | rw [c6b0] | (simp only [i64_w, i32_w]; rw [c6b0]) | skip)
      by_cases c7 : a1 > 63
      · rw [if_pos c7] at H
        have c7b0 : decide (63 < a1) = true := decide_eq_true c7
        clear c7
        have H' := Aside0.mk H
        clear H
        go_wp2
        go_meet
        case rel => exact ⟨_, (true), (by first | rfl | (simp; done) | (simp [*]; done)), H', ⟨by first | omega | exact Nat.le_refl _⟩, by repeat (first | exact Drawn0.refl _ | apply Drawn0.step)⟩
      · rw [if_neg c7] at H
        have c7b0 : decide (63 < a1) = false := decide_eq_false c7
        clear c7
        have H' := Aside0.mk H
        clear H
        go_wp2
        go_meet
        case rel => exact ⟨_, (decide (a2 < 1)), (by first | rfl | (simp; done) | (simp [*]; done)), H', ⟨by first | omega | exact Nat.le_refl _⟩, by repeat (first | exact Drawn0.refl _ | apply Drawn0.step)⟩
  case rest =>
    clear HC5
    try clear c2
    try clear p2
    try clear c6
    try clear c6b0
    try clear c7
    try clear c7b0
    obtain ⟨kq, x19_4, rfl, HA, HJ4, ⟨mc4, rfl⟩⟩ := hcut
    cases kq with
    | zero => exact absurd HA.out (by simp [postbagref01_Place0.j0])
    | succ kj4 =>
      have H := HA.out
      clear HA
      simp only [postbagref01_Place0.j0] at H
      by_cases c8 : x19_4 = true
      · subst c8
        have H1 : (some a0) = some r := by rw [if_pos rfl] at H; exact H
        clear H
        have H := H1
        clear H1
        obtain rfl := Option.some.inj H
        go_wp2
        go_ret
        exact ⟨by first | rfl | (simp; done) | (simp [*]; done), by repeat (first | exact Drawn0.refl _ | apply Drawn0.step)⟩
      · replace c8 := Bool.eq_false_iff.mpr c8
        subst c8
        have H1 : (postbagref01_Place0.l0 kj4 a0 a1 a2 a3 0) = some r := by rw [if_neg (show ¬ (false = true) by decide)] at H; exact H
        clear H
        have H := H1
        clear H1
        have H' := Aside0.mk H
        clear H
        go_wp2
        go_loopg [0, 9] kj4 (fun kq v0 v9 w' => ∃ (x0_2 : Int) (x9_2 : Int), v0 = .int .u64 x0_2 ∧ v9 = .int .i64 x9_2 ∧ Aside0 (postbagref01_Place0.l0 kq x0_2 a1 a2 a3 x9_2 = some r) ∧ Aside0 (kq ≤ kj4) ∧ Drawn0 w w')
        case atStart => exact ⟨(a0), (0), (by first | rfl | (simp; done) | (simp [*]; done)), (by first | rfl | (simp; done) | (simp [*]; done)), H', ⟨Nat.le_refl _⟩, by repeat (first | exact Drawn0.refl _ | apply Drawn0.step)⟩
        case round =>
          clear H'
          try clear c2
          try clear p2
          try clear c4
          try clear c6
          try clear c6b0
          try clear c7
          try clear c7b0
          try clear c8
          try clear p2
          obtain ⟨x0_2, x9_2, rfl, rfl, HA, HK2, ⟨m2, rfl⟩⟩ := hrel
          cases gk with
          | zero => exact absurd HA.out (by simp [postbagref01_Place0.l0])
          | succ k2 =>
            have H := HA.out
            clear HA
            simp only [postbagref01_Place0.l0] at H
            have HC9 := Aside0.mk H
            clear H
            go_upto_region 4 with (fail)
            go_cut [29] (fun v29 wc => ∃ (kq : Nat) (x29_8 : Bool), v29 = .bool x29_8 ∧ Aside0 (postbagref01_Place0.j2 kq x0_2 a1 a2 a3 x9_2 x29_8 = some r) ∧ Aside0 (kq ≤ k2) ∧ Drawn0 w wc)
            case first =>
              have H := HC9.out
              clear HC9
              by_cases c10 : x9_2 < a2
              · rw [if_pos c10] at H
                have c10b0 : decide (x9_2 < a2) = true := decide_eq_true c10
                clear c10
                (first | rw [c10b0] | (simp only [i64_w, i32_w]; rw [c10b0]) | skip)
                have H' := Aside0.mk H
                clear H
                go_wp2
                go_meet
                case rel => exact ⟨_, (decide (x9_2 < (wrap64 (64 - a1)))), (by first | rfl | (simp; done) | (simp [*]; done)), H', ⟨by have := HJ4.out; have := HK2.out; first | omega | exact Nat.le_refl _⟩, by repeat (first | exact Drawn0.refl _ | apply Drawn0.step)⟩
              · rw [if_neg c10] at H
                have c10b0 : decide (x9_2 < a2) = false := decide_eq_false c10
                clear c10
                (first | rw [c10b0] | (simp only [i64_w, i32_w]; rw [c10b0]) | skip)
                have H' := Aside0.mk H
                clear H
                go_wp2
                go_meet
                case rel => exact ⟨_, (false), (by first | rfl | (simp; done) | (simp [*]; done)), H', ⟨by have := HJ4.out; have := HK2.out; first | omega | exact Nat.le_refl _⟩, by repeat (first | exact Drawn0.refl _ | apply Drawn0.step)⟩
            case rest =>
              clear HC9
              try clear c1
              try clear c2
              try clear p2
              try clear c4
              try clear c6
              try clear c6b0
              try clear p6
              try clear c7
              try clear c7b0
              try clear c8
              try clear c10
              try clear c10b0
              try clear p2
              obtain ⟨kq, x29_8, rfl, HA, HJ8, ⟨mc8, rfl⟩⟩ := hcut
              cases kq with
              | zero => exact absurd HA.out (by simp [postbagref01_Place0.j2])
              | succ kj8 =>
                have H := HA.out
                clear HA
                simp only [postbagref01_Place0.j2] at H
                by_cases c11 : x29_8 = true
                · subst c11
                  have H1 : ((postbagref01_Bit.f x0_2 (wrap64 (a1 + x9_2))).bind fun t147 => ((postbagref01_power.f (wrap64 (a1 + x9_2))).bind fun t148 => ((postbagref01_Bit.f a3 x9_2).bind fun t149 => ((postbagref01_power.f (wrap64 (a1 + x9_2))).bind fun t150 => (postbagref01_Place0.l0 kj8 (IntKind.u64.wrap ((IntKind.u64.wrap (x0_2 - (IntKind.u64.wrap (t147 * t148)))) + (IntKind.u64.wrap (t149 * t150)))) a1 a2 a3 (wrap64 (x9_2 + 1))))))) = some r := by rw [if_pos rfl] at H; exact H
                  clear H
                  have H := H1
                  clear H1
                  replace H := Option.bind_eq_some_iff.mp H
                  obtain ⟨t147, A120, H⟩ := H
                  replace H : ((postbagref01_power.f (wrap64 (a1 + x9_2))).bind fun t148 => ((postbagref01_Bit.f a3 x9_2).bind fun t149 => ((postbagref01_power.f (wrap64 (a1 + x9_2))).bind fun t150 => (postbagref01_Place0.l0 kj8 (IntKind.u64.wrap ((IntKind.u64.wrap (x0_2 - (IntKind.u64.wrap (t147 * t148)))) + (IntKind.u64.wrap (t149 * t150)))) a1 a2 a3 (wrap64 (x9_2 + 1)))))) = some r := H
                  have A12 := Aside0.mk A120
                  clear A120
                  replace H := Option.bind_eq_some_iff.mp H
                  obtain ⟨t148, A130, H⟩ := H
                  replace H : ((postbagref01_Bit.f a3 x9_2).bind fun t149 => ((postbagref01_power.f (wrap64 (a1 + x9_2))).bind fun t150 => (postbagref01_Place0.l0 kj8 (IntKind.u64.wrap ((IntKind.u64.wrap (x0_2 - (IntKind.u64.wrap (t147 * t148)))) + (IntKind.u64.wrap (t149 * t150)))) a1 a2 a3 (wrap64 (x9_2 + 1))))) = some r := H
                  have A13 := Aside0.mk A130
                  clear A130
                  replace H := Option.bind_eq_some_iff.mp H
                  obtain ⟨t149, A140, H⟩ := H
                  replace H : ((postbagref01_power.f (wrap64 (a1 + x9_2))).bind fun t150 => (postbagref01_Place0.l0 kj8 (IntKind.u64.wrap ((IntKind.u64.wrap (x0_2 - (IntKind.u64.wrap (t147 * t148)))) + (IntKind.u64.wrap (t149 * t150)))) a1 a2 a3 (wrap64 (x9_2 + 1)))) = some r := H
                  have A14 := Aside0.mk A140
                  clear A140
                  replace H := Option.bind_eq_some_iff.mp H
                  obtain ⟨t150, A150, H⟩ := H
                  replace H : (postbagref01_Place0.l0 kj8 (IntKind.u64.wrap ((IntKind.u64.wrap (x0_2 - (IntKind.u64.wrap (t147 * t148)))) + (IntKind.u64.wrap (t149 * t150)))) a1 a2 a3 (wrap64 (x9_2 + 1))) = some r := H
                  have A15 := Aside0.mk A150
                  clear A150
                  have H' := Aside0.mk H
                  clear H
                  go_wp2_with (first | ((with_reducible refine gate_callee (f := 27) rfl ?_); refine goesL_ (some 37) rfl rfl Try.func27 (by kernel_rfl) rfl #[.int .u64 x0_2, .int .i64 (wrap64 (a1 + x9_2))] rfl (by (try simp only [List.map_toArray, List.map_cons, List.map_nil]); first | done | rfl | (simp only [List.length_drop, List.length_take]; rfl)) ?_; (with_reducible refine (postbagref01_Bit.calls x0_2 (wrap64 (a1 + x9_2)) t147 _ A12.out).mono ?_); rintro e w' ⟨rfl, ⟨nd, rfl⟩⟩; refine ⟨_, rfl, ?_⟩) | ((with_reducible refine gate_callee (f := 28) rfl ?_); refine goesL_ (some 41) rfl rfl Try.func28 (by kernel_rfl) rfl #[.int .i64 (wrap64 (a1 + x9_2))] rfl (by (try simp only [List.map_toArray, List.map_cons, List.map_nil]); first | done | rfl | (simp only [List.length_drop, List.length_take]; rfl)) ?_; (with_reducible refine (postbagref01_power.calls (wrap64 (a1 + x9_2)) t148 _ A13.out).mono ?_); rintro e w' ⟨rfl, ⟨nd, rfl⟩⟩; refine ⟨_, rfl, ?_⟩) | ((with_reducible refine gate_callee (f := 27) rfl ?_); refine goesL_ (some 46) rfl rfl Try.func27 (by kernel_rfl) rfl #[.int .u64 a3, .int .i64 x9_2] rfl (by (try simp only [List.map_toArray, List.map_cons, List.map_nil]); first | done | rfl | (simp only [List.length_drop, List.length_take]; rfl)) ?_; (with_reducible refine (postbagref01_Bit.calls a3 x9_2 t149 _ A14.out).mono ?_); rintro e w' ⟨rfl, ⟨nd, rfl⟩⟩; refine ⟨_, rfl, ?_⟩) | ((with_reducible refine gate_callee (f := 28) rfl ?_); refine goesL_ (some 50) rfl rfl Try.func28 (by kernel_rfl) rfl #[.int .i64 (wrap64 (a1 + x9_2))] rfl (by (try simp only [List.map_toArray, List.map_cons, List.map_nil]); first | done | rfl | (simp only [List.length_drop, List.length_take]; rfl)) ?_; (with_reducible refine (postbagref01_power.calls (wrap64 (a1 + x9_2)) t150 _ A15.out).mono ?_); rintro e w' ⟨rfl, ⟨nd, rfl⟩⟩; refine ⟨_, rfl, ?_⟩))
                  go_roundg kj8
                  case measure => have := HJ4.out; have := HK2.out; have := HJ8.out; omega
                  case rel => exact ⟨(IntKind.u64.wrap ((IntKind.u64.wrap (x0_2 - (IntKind.u64.wrap (t147 * t148)))) + (IntKind.u64.wrap (t149 * t150)))), (wrap64 (x9_2 + 1)), (by first | rfl | (simp; done) | (simp [*]; done)), (by first | rfl | (simp; done) | (simp [*]; done)), H', ⟨by have := HJ4.out; have := HK2.out; have := HJ8.out; omega⟩, by repeat (first | exact Drawn0.refl _ | apply Drawn0.step)⟩
                · replace c11 := Bool.eq_false_iff.mpr c11
                  subst c11
                  have H1 : (some x0_2) = some r := by rw [if_neg (show ¬ (false = true) by decide)] at H; exact H
                  clear H
                  have H := H1
                  clear H1
                  obtain rfl := Option.some.inj H
                  go_wp2
                  go_ret
                  exact ⟨by first | rfl | (simp; done) | (simp [*]; done), by repeat (first | exact Drawn0.refl _ | apply Drawn0.step)⟩
def postbagref01_Place.f (a0 : Int) (a1 : Int) (a2 : Int) (a3 : Int) : Option (Int) := if U64 a0 ∧ U64 a3 then some (placeOf a0 a1 a2 a3) else none
theorem postbagref01_Place.loop (X L M V : Nat) (hX : X < 2 ^ 64) (hV : V < 2 ^ 64) (hL : L ≤ 63) (d : Nat) : ∀ (k i : Nat), i + d = min M (64 - L) → 2 * d + 1 < k →
    postbagref01_Place0.l0 k ((place X L i V : Nat) : Int) L M V i = some ((place X L (min M (64 - L)) V : Nat) : Int) := by
  induction d with
  | zero =>
    intro k i hi hk
    obtain ⟨k, rfl⟩ : ∃ m, k = m + 2 := ⟨k - 2, by omega⟩
    simp only [postbagref01_Place0.l0]
    have : postbagref01_Place0.j2 (k + 1) ((place X L i V : Nat) : Int) L M V i false = some ((place X L (min M (64 - L)) V : Nat) : Int) := by
      simp only [postbagref01_Place0.j2]; rw [if_neg (by decide), ← hi]; rfl
    by_cases hM : (i : Int) < M
    · rw [if_pos hM, I64.wrap_eq (by unfold I64; omega), decide_eq_false (by omega)]; exact this
    · rw [if_neg hM]; exact this
  | succ d ih =>
    intro k i hi hk
    obtain ⟨k, rfl⟩ : ∃ m, k = m + 2 := ⟨k - 2, by omega⟩
    simp only [postbagref01_Place0.l0]
    rw [if_pos (by omega), I64.wrap_eq (by unfold I64; omega), decide_eq_true (by omega)]
    simp only [postbagref01_Place0.j2]
    have hY : place X L i V < 2 ^ 64 := place_lt X L i V hX (by omega)
    have hZ : place X L (i + 1) V < 2 ^ 64 := place_lt X L (i + 1) V hX (by omega)
    rw [if_pos trivial, I64.wrap_eq (show I64 ((L : Int) + i) by unfold I64; omega), I64.wrap_eq (show I64 ((i : Int) + 1) by unfold I64; omega), postbagref01_Bit.eq (U64.mk hY), postbagref01_Bit.eq (U64.mk hV)]
    simp only [Option.bind_some, postbagref01_power.f]
    rw [show ((L : Int) + i) = ((L + i : Nat) : Int) from by omega, bit_nat _ _ (show L + i < 64 by omega), bit_nat _ _ (show i < 64 by omega)]
    have e2 : powOf ((L + i : Nat) : Int) = ((2 ^ (L + i) : Nat) : Int) := by unfold powOf; rw [if_neg (by omega), if_neg (by omega), Int.toNat_natCast, ipow]
    have hp : 2 ^ (L + i) < 2 ^ 64 := Nat.pow_lt_pow_right (by decide) (by omega)
    have hb : ∀ c : Bool, IntKind.u64.wrap (((c.toNat : Nat) : Int) * ((2 ^ (L + i) : Nat) : Int)) = ((c.toNat * 2 ^ (L + i) : Nat) : Int) := by
      intro c; rw [← Int.natCast_mul]; refine wrap_nat _ ?_; cases c <;> simp <;> omega
    have hle : ((place X L i V).testBit (L + i)).toNat * 2 ^ (L + i) ≤ place X L i V := by
      cases ht : (place X L i V).testBit (L + i)
      · simp
      · have := Nat.ge_two_pow_of_testBit ht; simpa using this
    have hps := put_bit (place X L i V) (L + i) (V.testBit i)
    rw [place_succ] at hps
    rw [e2, hb, hb, ← Int.natCast_sub hle, wrap_nat _ (by omega), ← Int.natCast_add, hps, wrap_nat _ hZ, show ((i : Int) + 1) = ((i + 1 : Nat) : Int) from by omega]
    exact ih k (i + 1) (by omega) (by omega)
theorem postbagref01_Place.spec (a0 a1 a2 a3 r : Int) (h : postbagref01_Place.f a0 a1 a2 a3 = some r) : ∃ k, postbagref01_Place0.f k a0 a1 a2 a3 = some r := by
  unfold postbagref01_Place.f at h
  by_cases hu : U64 a0 ∧ U64 a3
  · rw [if_pos hu] at h
    obtain rfl := Option.some.inj h
    refine ⟨133, ?_⟩
    unfold postbagref01_Place0.f
    by_cases h1 : a1 < 0
    · rw [if_pos h1]; simp only [postbagref01_Place0.j0, if_true, placeOf]; rw [if_pos (Or.inl h1)]
    · rw [if_neg h1]
      by_cases h2 : a1 > 63
      · rw [if_pos h2]; simp only [postbagref01_Place0.j0, if_true, placeOf]; rw [if_pos (Or.inr (Or.inl h2))]
      · rw [if_neg h2]
        by_cases h3 : a2 < 1
        · rw [decide_eq_true h3]; simp only [postbagref01_Place0.j0, if_true, placeOf]; rw [if_pos (Or.inr (Or.inr h3))]
        · rw [decide_eq_false h3]
          simp only [postbagref01_Place0.j0]
          obtain ⟨X, rfl, hX⟩ := hu.1.nat
          obtain ⟨V, rfl, hV⟩ := hu.2.nat
          obtain ⟨L, rfl⟩ : ∃ L : Nat, a1 = L := ⟨a1.toNat, by omega⟩
          obtain ⟨M, rfl⟩ : ∃ M : Nat, a2 = M := ⟨a2.toNat, by omega⟩
          have h := postbagref01_Place.loop X L M V hX hV (by omega) (min M (64 - L)) 132 0 (by omega) (by omega)
          rw [if_neg (by decide), place_nat X L M V (by omega) (by omega)]
          rw [place_zero] at h
          exact h
  · rw [if_neg hu] at h; exact absurd h (by simp)

theorem postbagref01_Place.calls (a0 : Int) (a1 : Int) (a2 : Int) (a3 : Int) (r : Int) (w : World) (h : postbagref01_Place.f a0 a1 a2 a3 = some r) :
    Calls Try.prog 21 #[.int .u64 a0, .int .i64 a1, .int .i64 a2, .int .u64 a3] w fun e w' => e = .returned (.int .u64 r) ∧ Drawn0 w w' := by
  obtain ⟨k, hk⟩ := postbagref01_Place.spec a0 a1 a2 a3 r h
  exact postbagref01_Place0.calls k a0 a1 a2 a3 r w hk

/-! ### postbaglaw01_BitsFields: function 7 -/
def postbaglaw01_BitsFields.f (a0 : Int) (a1 : Int) (a2 : Int) (a3 : Int) : Option (Bool) := (bits_Field.f a0 a1 a2).bind fun t151 => ((postbagref01_Field.f a0 a1 a2).bind fun t152 => (if t151 = t152 then ((bits_Place.f a0 a1 a2 a3).bind fun t153 => ((postbagref01_Place.f a0 a1 a2 a3).bind fun t154 => (if t153 = t154 then ((postbaglaw01_lives.f).bind fun t155 => (some t155)) else (some false)))) else (some false)))
set_option maxHeartbeats 8000000 in
set_option maxRecDepth 100000 in
theorem postbaglaw01_BitsFields.calls (a0 : Int) (a1 : Int) (a2 : Int) (a3 : Int) (r : Bool) (w : World) (h : postbaglaw01_BitsFields.f a0 a1 a2 a3 = some r) :
    Calls Try.prog 7 #[.int .u64 a0, .int .i64 a1, .int .i64 a2, .int .u64 a3] w fun e w' => e = .returned (.bool r) ∧ Below w.heap.size w w' := by
  have HB := Aside0.mk (Below.refl w.heap.size w)
  have H : ((bits_Field.f a0 a1 a2).bind fun t151 => ((postbagref01_Field.f a0 a1 a2).bind fun t152 => (if t151 = t152 then ((bits_Place.f a0 a1 a2 a3).bind fun t153 => ((postbagref01_Place.f a0 a1 a2 a3).bind fun t154 => (if t153 = t154 then ((postbaglaw01_lives.f).bind fun t155 => (some t155)) else (some false)))) else (some false)))) = some r := h
  clear h
  replace H := Option.bind_eq_some_iff.mp H
  obtain ⟨t151, A50, H⟩ := H
  replace H : ((postbagref01_Field.f a0 a1 a2).bind fun t152 => (if t151 = t152 then ((bits_Place.f a0 a1 a2 a3).bind fun t153 => ((postbagref01_Place.f a0 a1 a2 a3).bind fun t154 => (if t153 = t154 then ((postbaglaw01_lives.f).bind fun t155 => (some t155)) else (some false)))) else (some false))) = some r := H
  have A5 := Aside0.mk A50
  clear A50
  replace H := Option.bind_eq_some_iff.mp H
  obtain ⟨t152, A60, H⟩ := H
  replace H : (if t151 = t152 then ((bits_Place.f a0 a1 a2 a3).bind fun t153 => ((postbagref01_Place.f a0 a1 a2 a3).bind fun t154 => (if t153 = t154 then ((postbaglaw01_lives.f).bind fun t155 => (some t155)) else (some false)))) else (some false)) = some r := H
  have A6 := Aside0.mk A60
  clear A60
  by_cases c7 : t151 = t152
  · rw [if_pos c7] at H
    have c7b0 : (t151 == t152) = true := beq_iff_eq.mpr c7
    have c7b1 : (t151 != t152) = false := bne_eq_false_iff_eq.mpr c7
    clear c7
    replace H := Option.bind_eq_some_iff.mp H
    obtain ⟨t153, A80, H⟩ := H
    replace H : ((postbagref01_Place.f a0 a1 a2 a3).bind fun t154 => (if t153 = t154 then ((postbaglaw01_lives.f).bind fun t155 => (some t155)) else (some false))) = some r := H
    have A8 := Aside0.mk A80
    clear A80
    replace H := Option.bind_eq_some_iff.mp H
    obtain ⟨t154, A90, H⟩ := H
    replace H : (if t153 = t154 then ((postbaglaw01_lives.f).bind fun t155 => (some t155)) else (some false)) = some r := H
    have A9 := Aside0.mk A90
    clear A90
    by_cases c10 : t153 = t154
    · rw [if_pos c10] at H
      have c10b0 : (t153 == t154) = true := beq_iff_eq.mpr c10
      have c10b1 : (t153 != t154) = false := bne_eq_false_iff_eq.mpr c10
      clear c10
      replace H := Option.bind_eq_some_iff.mp H
      obtain ⟨t155, A110, H⟩ := H
      replace H : (some t155) = some r := H
      have A11 := Aside0.mk A110
      clear A110
      obtain rfl := Option.some.inj H
      go_enter Try.func7, Try.ntmps7
      go_wp2_with (first | ((with_reducible refine gate_callee (f := 18) rfl ?_); refine goesL_ (some 12) rfl rfl Try.func18 (by kernel_rfl) rfl #[.int .u64 a0, .int .i64 a1, .int .i64 a2] rfl (by (try simp only [List.map_toArray, List.map_cons, List.map_nil]); first | done | rfl | (simp only [List.length_drop, List.length_take]; rfl)) ?_; (with_reducible refine (bits_Field.calls a0 a1 a2 t151 _ A5.out).mono ?_); rintro e w' ⟨rfl, ⟨nd, rfl⟩⟩; refine ⟨_, rfl, ?_⟩) | ((with_reducible refine gate_callee (f := 19) rfl ?_); refine goesL_ (some 16) rfl rfl Try.func19 (by kernel_rfl) rfl #[.int .u64 a0, .int .i64 a1, .int .i64 a2] rfl (by (try simp only [List.map_toArray, List.map_cons, List.map_nil]); first | done | rfl | (simp only [List.length_drop, List.length_take]; rfl)) ?_; (with_reducible refine (postbagref01_Field.calls a0 a1 a2 t152 _ A6.out).mono ?_); rintro e w' ⟨rfl, ⟨nd, rfl⟩⟩; refine ⟨_, rfl, ?_⟩) | (go_at_call 20; (with_reducible refine (bits_Place.calls a0 a1 a2 a3 t153 _ A8.out).mono ?_); rintro e w' ⟨rfl, ⟨nd, rfl⟩⟩) | (go_at_call 21; (with_reducible refine (postbagref01_Place.calls a0 a1 a2 a3 t154 _ A9.out).mono ?_); rintro e w' ⟨rfl, ⟨nd, rfl⟩⟩) | (go_at_call 13; (with_reducible refine (postbaglaw01_lives.calls  t155 _ A11.out).mono ?_); rintro e w12 ⟨rfl, hb⟩; have n0_ := Aside0.mk (below_step (by repeat (first | (with_reducible first | exact HB.out | apply below_alloc | apply pw_below_drewN | apply below_drew1) | exact HB.out)) hb); clear HB; have HB := n0_; clear n0_; (try clear hb); (try clear hb2); (try clear hk); (try clear hi)))
      go_ret
      exact ⟨by first | rfl | (simp [errW_none, errW_some] <;> rfl) | (simp [*, errW_none, errW_some] <;> rfl), by repeat (first | (with_reducible first | exact HB.out | apply below_alloc | apply pw_below_drewN | apply below_drew1) | exact HB.out)⟩
    · rw [if_neg c10] at H
      have c10b0 : (t153 == t154) = false := beq_eq_false_iff_ne.mpr c10
      have c10b1 : (t153 != t154) = true := bne_iff_ne.mpr c10
      obtain rfl := Option.some.inj H
      go_enter Try.func7, Try.ntmps7
      go_wp2_with (first | ((with_reducible refine gate_callee (f := 18) rfl ?_); refine goesL_ (some 12) rfl rfl Try.func18 (by kernel_rfl) rfl #[.int .u64 a0, .int .i64 a1, .int .i64 a2] rfl (by (try simp only [List.map_toArray, List.map_cons, List.map_nil]); first | done | rfl | (simp only [List.length_drop, List.length_take]; rfl)) ?_; (with_reducible refine (bits_Field.calls a0 a1 a2 t151 _ A5.out).mono ?_); rintro e w' ⟨rfl, ⟨nd, rfl⟩⟩; refine ⟨_, rfl, ?_⟩) | ((with_reducible refine gate_callee (f := 19) rfl ?_); refine goesL_ (some 16) rfl rfl Try.func19 (by kernel_rfl) rfl #[.int .u64 a0, .int .i64 a1, .int .i64 a2] rfl (by (try simp only [List.map_toArray, List.map_cons, List.map_nil]); first | done | rfl | (simp only [List.length_drop, List.length_take]; rfl)) ?_; (with_reducible refine (postbagref01_Field.calls a0 a1 a2 t152 _ A6.out).mono ?_); rintro e w' ⟨rfl, ⟨nd, rfl⟩⟩; refine ⟨_, rfl, ?_⟩) | (go_at_call 20; (with_reducible refine (bits_Place.calls a0 a1 a2 a3 t153 _ A8.out).mono ?_); rintro e w' ⟨rfl, ⟨nd, rfl⟩⟩) | (go_at_call 21; (with_reducible refine (postbagref01_Place.calls a0 a1 a2 a3 t154 _ A9.out).mono ?_); rintro e w' ⟨rfl, ⟨nd, rfl⟩⟩))
      go_ret
      exact ⟨by first | rfl | (simp [errW_none, errW_some] <;> rfl) | (simp [*, errW_none, errW_some] <;> rfl), by repeat (first | (with_reducible first | exact HB.out | apply below_alloc | apply pw_below_drewN | apply below_drew1) | exact HB.out)⟩
  · rw [if_neg c7] at H
    have c7b0 : (t151 == t152) = false := beq_eq_false_iff_ne.mpr c7
    have c7b1 : (t151 != t152) = true := bne_iff_ne.mpr c7
    obtain rfl := Option.some.inj H
    go_enter Try.func7, Try.ntmps7
    go_wp2_with (first | ((with_reducible refine gate_callee (f := 18) rfl ?_); refine goesL_ (some 12) rfl rfl Try.func18 (by kernel_rfl) rfl #[.int .u64 a0, .int .i64 a1, .int .i64 a2] rfl (by (try simp only [List.map_toArray, List.map_cons, List.map_nil]); first | done | rfl | (simp only [List.length_drop, List.length_take]; rfl)) ?_; (with_reducible refine (bits_Field.calls a0 a1 a2 t151 _ A5.out).mono ?_); rintro e w' ⟨rfl, ⟨nd, rfl⟩⟩; refine ⟨_, rfl, ?_⟩) | ((with_reducible refine gate_callee (f := 19) rfl ?_); refine goesL_ (some 16) rfl rfl Try.func19 (by kernel_rfl) rfl #[.int .u64 a0, .int .i64 a1, .int .i64 a2] rfl (by (try simp only [List.map_toArray, List.map_cons, List.map_nil]); first | done | rfl | (simp only [List.length_drop, List.length_take]; rfl)) ?_; (with_reducible refine (postbagref01_Field.calls a0 a1 a2 t152 _ A6.out).mono ?_); rintro e w' ⟨rfl, ⟨nd, rfl⟩⟩; refine ⟨_, rfl, ?_⟩))
    go_ret
    exact ⟨by first | rfl | (simp [errW_none, errW_some] <;> rfl) | (simp [*, errW_none, errW_some] <;> rfl), by repeat (first | (with_reducible first | exact HB.out | apply below_alloc | apply pw_below_drewN | apply below_drew1) | exact HB.out)⟩

/-- THE ONE PURE STATEMENT of postbaglaw01_BitsFields: yours. -/
def postbaglaw01_BitsFields.Pure : Prop := ∀ (a0 : Int) (a1 : Int) (a2 : Int) (a3 : Int), (Lit.int .u64 a0).wf = true → (Lit.int .i64 a1).wf = true → (Lit.int .i64 a2).wf = true → (Lit.int .u64 a3).wf = true → postbaglaw01_BitsFields.f a0 a1 a2 a3 = some true
theorem postbaglaw01_BitsFields.walk (P : postbaglaw01_BitsFields.Pure) (a0 : Int) (a1 : Int) (a2 : Int) (a3 : Int) (w : World) (w0 : (Lit.int .u64 a0).wf = true) (w1 : (Lit.int .i64 a1).wf = true) (w2 : (Lit.int .i64 a2).wf = true) (w3 : (Lit.int .u64 a3).wf = true) :
    Calls Try.prog 7 #[.int .u64 a0, .int .i64 a1, .int .i64 a2, .int .u64 a3] w fun e w' => e = .returned (.bool true) ∧ Below w.heap.size w w' := by
  have h := P a0 a1 a2 a3 w0 w1 w2 w3
  refine (postbaglaw01_BitsFields.calls a0 a1 a2 a3 true w h).mono ?_
  rintro e w' ⟨rfl, hd⟩
  exact ⟨rfl, hd⟩

/-! ### postbaglaw01_BitsParts: function 8 -/
def postbaglaw01_BitsParts.j0 : Nat → Int → Int → Int → Int → Int → Bool → Option (Bool)
  | 0, _, _, _, _, _, _ => none
  | k + 1, x0, x3, x11, x12, x13, x51 => if x51 = true then (some false) else ((bits_Field.f x13 x11 x12).bind fun t161 => ((bits_Field.f x3 0 (mn x12 (wrap64 (64 - x11)))).bind fun t162 => (if t161 = t162 then ((bits_Place.f x13 x11 x12 x3).bind fun t163 => (if t163 = x13 then ((bits_Field.f x0 x11 x12).bind fun t164 => ((bits_Place.f x0 x11 x12 t164).bind fun t165 => (if t165 = x0 then ((postbaglaw01_lives.f).bind fun t166 => (some t166)) else (some false)))) else (some false))) else (some false))))
def postbaglaw01_BitsParts.f (k : Nat) (a0 : Int) (a1 : Int) (a2 : Int) (a3 : Int) (a4 : Int) : Option (Bool) := (bits_Place.f a0 (wrap64 (Int.tmod (IntKind.u64.wrap (a1)) 64)) (wrap64 (1 + (wrap64 (Int.tmod (IntKind.u64.wrap (a2)) 64)))) a3).bind fun t156 => (if (wrap64 (Int.tmod (IntKind.u64.wrap (a4)) 64)) < (wrap64 (Int.tmod (IntKind.u64.wrap (a1)) 64)) then ((bits_Field.f t156 (wrap64 (Int.tmod (IntKind.u64.wrap (a4)) 64)) 1).bind fun t157 => ((bits_Field.f a0 (wrap64 (Int.tmod (IntKind.u64.wrap (a4)) 64)) 1).bind fun t158 => (postbaglaw01_BitsParts.j0 k a0 a3 (wrap64 (Int.tmod (IntKind.u64.wrap (a1)) 64)) (wrap64 (1 + (wrap64 (Int.tmod (IntKind.u64.wrap (a2)) 64)))) t156 (t157 != t158)))) else (if (wrap64 ((wrap64 (Int.tmod (IntKind.u64.wrap (a4)) 64)) - (wrap64 (Int.tmod (IntKind.u64.wrap (a1)) 64)))) ≥ (wrap64 (1 + (wrap64 (Int.tmod (IntKind.u64.wrap (a2)) 64)))) then ((bits_Field.f t156 (wrap64 (Int.tmod (IntKind.u64.wrap (a4)) 64)) 1).bind fun t159 => ((bits_Field.f a0 (wrap64 (Int.tmod (IntKind.u64.wrap (a4)) 64)) 1).bind fun t160 => (postbaglaw01_BitsParts.j0 k a0 a3 (wrap64 (Int.tmod (IntKind.u64.wrap (a1)) 64)) (wrap64 (1 + (wrap64 (Int.tmod (IntKind.u64.wrap (a2)) 64)))) t156 (t159 != t160)))) else (postbaglaw01_BitsParts.j0 k a0 a3 (wrap64 (Int.tmod (IntKind.u64.wrap (a1)) 64)) (wrap64 (1 + (wrap64 (Int.tmod (IntKind.u64.wrap (a2)) 64)))) t156 false)))
theorem postbaglaw01_BitsParts.mono_l : ∀ k, (∀ y0 y1 y2 y3 y4 y5, LeO (postbaglaw01_BitsParts.j0 k y0 y1 y2 y3 y4 y5) (postbaglaw01_BitsParts.j0 (k + 1) y0 y1 y2 y3 y4 y5))
  | 0 => fun _ _ _ _ _ _ r h => by simp [postbaglaw01_BitsParts.j0] at h
  | k + 1 => by
    have ih0 := postbaglaw01_BitsParts.mono_l k
    · intro y0 y1 y2 y3 y4 y5
      unfold postbaglaw01_BitsParts.j0
      repeat' first
      | (with_reducible exact ih0 _ _ _ _ _ _)
      | (with_reducible exact LeO.refl _)
      | (with_reducible exact LeO.none _)
      | (with_reducible refine LeO.ite ?_ ?_)
      | (with_reducible refine LeO.bind ?_ (fun _ => ?_))
      | exact ih0 _ _ _ _ _ _
      | exact LeO.none _
      | refine LeO.ite ?_ ?_
      | refine LeO.bind ?_ (fun _ => ?_)
theorem postbaglaw01_BitsParts.mono : ∀ a0 a1 a2 a3 a4 k, LeO (postbaglaw01_BitsParts.f k a0 a1 a2 a3 a4) (postbaglaw01_BitsParts.f (k + 1) a0 a1 a2 a3 a4) := by
  intro a0 a1 a2 a3 a4 k
  have ih0 := postbaglaw01_BitsParts.mono_l k
  unfold postbaglaw01_BitsParts.f
  repeat' first
      | (with_reducible exact ih0 _ _ _ _ _ _)
      | (with_reducible exact LeO.refl _)
      | (with_reducible exact LeO.none _)
      | (with_reducible refine LeO.ite ?_ ?_)
      | (with_reducible refine LeO.bind ?_ (fun _ => ?_))
      | exact ih0 _ _ _ _ _ _
      | exact LeO.none _
      | refine LeO.ite ?_ ?_
      | refine LeO.bind ?_ (fun _ => ?_)
set_option maxHeartbeats 8000000 in
set_option maxRecDepth 100000 in
theorem postbaglaw01_BitsParts.calls (k : Nat) (a0 : Int) (a1 : Int) (a2 : Int) (a3 : Int) (a4 : Int) (r : Bool) (w : World) (h : postbaglaw01_BitsParts.f k a0 a1 a2 a3 a4 = some r) :
    Calls Try.prog 8 #[.int .u64 a0, .int .i64 a1, .int .i64 a2, .int .u64 a3, .int .i64 a4] w fun e w' => e = .returned (.bool r) ∧ Below w.heap.size w w' := by
  have HB := Aside0.mk (Below.refl w.heap.size w)
  have H : ((bits_Place.f a0 (wrap64 (Int.tmod (IntKind.u64.wrap (a1)) 64)) (wrap64 (1 + (wrap64 (Int.tmod (IntKind.u64.wrap (a2)) 64)))) a3).bind fun t156 => (if (wrap64 (Int.tmod (IntKind.u64.wrap (a4)) 64)) < (wrap64 (Int.tmod (IntKind.u64.wrap (a1)) 64)) then ((bits_Field.f t156 (wrap64 (Int.tmod (IntKind.u64.wrap (a4)) 64)) 1).bind fun t157 => ((bits_Field.f a0 (wrap64 (Int.tmod (IntKind.u64.wrap (a4)) 64)) 1).bind fun t158 => (postbaglaw01_BitsParts.j0 k a0 a3 (wrap64 (Int.tmod (IntKind.u64.wrap (a1)) 64)) (wrap64 (1 + (wrap64 (Int.tmod (IntKind.u64.wrap (a2)) 64)))) t156 (t157 != t158)))) else (if (wrap64 ((wrap64 (Int.tmod (IntKind.u64.wrap (a4)) 64)) - (wrap64 (Int.tmod (IntKind.u64.wrap (a1)) 64)))) ≥ (wrap64 (1 + (wrap64 (Int.tmod (IntKind.u64.wrap (a2)) 64)))) then ((bits_Field.f t156 (wrap64 (Int.tmod (IntKind.u64.wrap (a4)) 64)) 1).bind fun t159 => ((bits_Field.f a0 (wrap64 (Int.tmod (IntKind.u64.wrap (a4)) 64)) 1).bind fun t160 => (postbaglaw01_BitsParts.j0 k a0 a3 (wrap64 (Int.tmod (IntKind.u64.wrap (a1)) 64)) (wrap64 (1 + (wrap64 (Int.tmod (IntKind.u64.wrap (a2)) 64)))) t156 (t159 != t160)))) else (postbaglaw01_BitsParts.j0 k a0 a3 (wrap64 (Int.tmod (IntKind.u64.wrap (a1)) 64)) (wrap64 (1 + (wrap64 (Int.tmod (IntKind.u64.wrap (a2)) 64)))) t156 false)))) = some r := h
  clear h
  replace H := Option.bind_eq_some_iff.mp H
  obtain ⟨t156, A60, H⟩ := H
  replace H : (if (wrap64 (Int.tmod (IntKind.u64.wrap (a4)) 64)) < (wrap64 (Int.tmod (IntKind.u64.wrap (a1)) 64)) then ((bits_Field.f t156 (wrap64 (Int.tmod (IntKind.u64.wrap (a4)) 64)) 1).bind fun t157 => ((bits_Field.f a0 (wrap64 (Int.tmod (IntKind.u64.wrap (a4)) 64)) 1).bind fun t158 => (postbaglaw01_BitsParts.j0 k a0 a3 (wrap64 (Int.tmod (IntKind.u64.wrap (a1)) 64)) (wrap64 (1 + (wrap64 (Int.tmod (IntKind.u64.wrap (a2)) 64)))) t156 (t157 != t158)))) else (if (wrap64 ((wrap64 (Int.tmod (IntKind.u64.wrap (a4)) 64)) - (wrap64 (Int.tmod (IntKind.u64.wrap (a1)) 64)))) ≥ (wrap64 (1 + (wrap64 (Int.tmod (IntKind.u64.wrap (a2)) 64)))) then ((bits_Field.f t156 (wrap64 (Int.tmod (IntKind.u64.wrap (a4)) 64)) 1).bind fun t159 => ((bits_Field.f a0 (wrap64 (Int.tmod (IntKind.u64.wrap (a4)) 64)) 1).bind fun t160 => (postbaglaw01_BitsParts.j0 k a0 a3 (wrap64 (Int.tmod (IntKind.u64.wrap (a1)) 64)) (wrap64 (1 + (wrap64 (Int.tmod (IntKind.u64.wrap (a2)) 64)))) t156 (t159 != t160)))) else (postbaglaw01_BitsParts.j0 k a0 a3 (wrap64 (Int.tmod (IntKind.u64.wrap (a1)) 64)) (wrap64 (1 + (wrap64 (Int.tmod (IntKind.u64.wrap (a2)) 64)))) t156 false))) = some r := H
  have A6 := Aside0.mk A60
  clear A60
  have HC7 := Aside0.mk H
  clear H
  go_enter Try.func8, Try.ntmps8
  go_upto_region 4 with (first | ((with_reducible refine gate_callee (f := 20) rfl ?_); refine goesL_ (some 28) rfl rfl Try.func20 (by kernel_rfl) rfl #[.int .u64 a0, .int .i64 (wrap64 (Int.tmod (IntKind.u64.wrap (a1)) 64)), .int .i64 (wrap64 (1 + (wrap64 (Int.tmod (IntKind.u64.wrap (a2)) 64)))), .int .u64 a3] rfl (by (try simp only [List.map_toArray, List.map_cons, List.map_nil]); first | done | rfl | (simp only [List.length_drop, List.length_take]; rfl)) ?_; (with_reducible refine (bits_Place.calls a0 (wrap64 (Int.tmod (IntKind.u64.wrap (a1)) 64)) (wrap64 (1 + (wrap64 (Int.tmod (IntKind.u64.wrap (a2)) 64)))) a3 t156 _ A6.out).mono ?_); rintro e w' ⟨rfl, ⟨nd, rfl⟩⟩; refine ⟨_, rfl, ?_⟩))
  (try simp only [Act.put, List.setIfInBounds_toArray, List.set_cons_zero, List.set_cons_succ])
  go_cut [51] (fun v51 wc => ∃ (kq : Nat) (x51_6 : Bool), v51 = .bool x51_6 ∧ Aside0 (postbaglaw01_BitsParts.j0 kq a0 a3 (wrap64 (Int.tmod (IntKind.u64.wrap (a1)) 64)) (wrap64 (1 + (wrap64 (Int.tmod (IntKind.u64.wrap (a2)) 64)))) t156 x51_6 = some r) ∧ Aside0 (kq ≤ k) ∧ Aside0 (Below w.heap.size w wc))
  case first =>
    have H := HC7.out
    clear HC7
    by_cases c8 : (wrap64 (Int.tmod (IntKind.u64.wrap (a4)) 64)) < (wrap64 (Int.tmod (IntKind.u64.wrap (a1)) 64))
    · rw [if_pos c8] at H
      have c8b0 : decide ((wrap64 (Int.tmod (IntKind.u64.wrap (a4)) 64)) < (wrap64 (Int.tmod (IntKind.u64.wrap (a1)) 64))) = true := decide_eq_true c8
      clear c8
      (first | rw [c8b0] | (simp only [i64_w, i32_w]; rw [c8b0]) | skip)
      replace H := Option.bind_eq_some_iff.mp H
      obtain ⟨t157, A90, H⟩ := H
      replace H : ((bits_Field.f a0 (wrap64 (Int.tmod (IntKind.u64.wrap (a4)) 64)) 1).bind fun t158 => (postbaglaw01_BitsParts.j0 k a0 a3 (wrap64 (Int.tmod (IntKind.u64.wrap (a1)) 64)) (wrap64 (1 + (wrap64 (Int.tmod (IntKind.u64.wrap (a2)) 64)))) t156 (t157 != t158))) = some r := H
      have A9 := Aside0.mk A90
      clear A90
      replace H := Option.bind_eq_some_iff.mp H
      obtain ⟨t158, A100, H⟩ := H
      replace H : (postbaglaw01_BitsParts.j0 k a0 a3 (wrap64 (Int.tmod (IntKind.u64.wrap (a1)) 64)) (wrap64 (1 + (wrap64 (Int.tmod (IntKind.u64.wrap (a2)) 64)))) t156 (t157 != t158)) = some r := H
      have A10 := Aside0.mk A100
      clear A100
      have H' := Aside0.mk H
      clear H
      go_wp2_with (first | (go_at_call 18; (with_reducible refine (bits_Field.calls t156 (wrap64 (Int.tmod (IntKind.u64.wrap (a4)) 64)) 1 t157 _ A9.out).mono ?_); rintro e w' ⟨rfl, ⟨nd, rfl⟩⟩) | (go_at_call 18; (with_reducible refine (bits_Field.calls a0 (wrap64 (Int.tmod (IntKind.u64.wrap (a4)) 64)) 1 t158 _ A10.out).mono ?_); rintro e w' ⟨rfl, ⟨nd, rfl⟩⟩))
      go_meet
      case rel => exact ⟨_, ((t157 != t158)), (by first | rfl | (simp; done) | (simp [*]; done)), H', ⟨by first | omega | exact Nat.le_refl _⟩, ⟨by repeat (first | (with_reducible first | exact HB.out | apply below_alloc | apply pw_below_drewN | apply below_drew1) | exact HB.out)⟩⟩
    · rw [if_neg c8] at H
      have c8b0 : decide ((wrap64 (Int.tmod (IntKind.u64.wrap (a4)) 64)) < (wrap64 (Int.tmod (IntKind.u64.wrap (a1)) 64))) = false := decide_eq_false c8
      clear c8
      (first | rw [c8b0] | (simp only [i64_w, i32_w]; rw [c8b0]) | skip)
      by_cases c11 : (wrap64 ((wrap64 (Int.tmod (IntKind.u64.wrap (a4)) 64)) - (wrap64 (Int.tmod (IntKind.u64.wrap (a1)) 64)))) ≥ (wrap64 (1 + (wrap64 (Int.tmod (IntKind.u64.wrap (a2)) 64))))
      · rw [if_pos c11] at H
        have c11b0 : decide ((wrap64 (1 + (wrap64 (Int.tmod (IntKind.u64.wrap (a2)) 64)))) ≤ (wrap64 ((wrap64 (Int.tmod (IntKind.u64.wrap (a4)) 64)) - (wrap64 (Int.tmod (IntKind.u64.wrap (a1)) 64))))) = true := decide_eq_true c11
        clear c11
        replace H := Option.bind_eq_some_iff.mp H
        obtain ⟨t159, A120, H⟩ := H
        replace H : ((bits_Field.f a0 (wrap64 (Int.tmod (IntKind.u64.wrap (a4)) 64)) 1).bind fun t160 => (postbaglaw01_BitsParts.j0 k a0 a3 (wrap64 (Int.tmod (IntKind.u64.wrap (a1)) 64)) (wrap64 (1 + (wrap64 (Int.tmod (IntKind.u64.wrap (a2)) 64)))) t156 (t159 != t160))) = some r := H
        have A12 := Aside0.mk A120
        clear A120
        replace H := Option.bind_eq_some_iff.mp H
        obtain ⟨t160, A130, H⟩ := H
        replace H : (postbaglaw01_BitsParts.j0 k a0 a3 (wrap64 (Int.tmod (IntKind.u64.wrap (a1)) 64)) (wrap64 (1 + (wrap64 (Int.tmod (IntKind.u64.wrap (a2)) 64)))) t156 (t159 != t160)) = some r := H
        have A13 := Aside0.mk A130
        clear A130
        have H' := Aside0.mk H
        clear H
        go_wp2_with (first | (go_at_call 18; (with_reducible refine (bits_Field.calls t156 (wrap64 (Int.tmod (IntKind.u64.wrap (a4)) 64)) 1 t159 _ A12.out).mono ?_); rintro e w' ⟨rfl, ⟨nd, rfl⟩⟩) | (go_at_call 18; (with_reducible refine (bits_Field.calls a0 (wrap64 (Int.tmod (IntKind.u64.wrap (a4)) 64)) 1 t160 _ A13.out).mono ?_); rintro e w' ⟨rfl, ⟨nd, rfl⟩⟩))
        go_meet
        case rel => exact ⟨_, ((t159 != t160)), (by first | rfl | (simp; done) | (simp [*]; done)), H', ⟨by first | omega | exact Nat.le_refl _⟩, ⟨by repeat (first | (with_reducible first | exact HB.out | apply below_alloc | apply pw_below_drewN | apply below_drew1) | exact HB.out)⟩⟩
      · rw [if_neg c11] at H
        have c11b0 : decide ((wrap64 (1 + (wrap64 (Int.tmod (IntKind.u64.wrap (a2)) 64)))) ≤ (wrap64 ((wrap64 (Int.tmod (IntKind.u64.wrap (a4)) 64)) - (wrap64 (Int.tmod (IntKind.u64.wrap (a1)) 64))))) = false := decide_eq_false c11
        clear c11
        have H' := Aside0.mk H
        clear H
        go_wp2
        go_meet
        case rel => exact ⟨_, (false), (by first | rfl | (simp; done) | (simp [*]; done)), H', ⟨by first | omega | exact Nat.le_refl _⟩, ⟨by repeat (first | (with_reducible first | exact HB.out | apply below_alloc | apply pw_below_drewN | apply below_drew1) | exact HB.out)⟩⟩
  case rest =>
    clear HC7
    try clear c1
    try clear c2
    try clear p2
    try clear p6
    try clear c8
    try clear c8b0
    try clear c11
    try clear c11b0
    obtain ⟨kq, x51_6, rfl, HA, HJ6, HB⟩ := hcut
    cases kq with
    | zero => exact absurd HA.out (by simp [postbaglaw01_BitsParts.j0])
    | succ kj6 =>
      have H := HA.out
      clear HA
      simp only [postbaglaw01_BitsParts.j0] at H
      by_cases c14 : x51_6 = true
      · subst c14
        have H1 : (some false) = some r := by rw [if_pos rfl] at H; exact H
        clear H
        have H := H1
        clear H1
        obtain rfl := Option.some.inj H
        go_wp2
        go_ret
        exact ⟨by first | rfl | (simp [errW_none, errW_some] <;> rfl) | (simp [*, errW_none, errW_some] <;> rfl), by repeat (first | (with_reducible first | exact HB.out | apply below_alloc | apply pw_below_drewN | apply below_drew1) | exact HB.out)⟩
      · replace c14 := Bool.eq_false_iff.mpr c14
        subst c14
        have H1 : ((bits_Field.f t156 (wrap64 (Int.tmod (IntKind.u64.wrap (a1)) 64)) (wrap64 (1 + (wrap64 (Int.tmod (IntKind.u64.wrap (a2)) 64))))).bind fun t161 => ((bits_Field.f a3 0 (mn (wrap64 (1 + (wrap64 (Int.tmod (IntKind.u64.wrap (a2)) 64)))) (wrap64 (64 - (wrap64 (Int.tmod (IntKind.u64.wrap (a1)) 64)))))).bind fun t162 => (if t161 = t162 then ((bits_Place.f t156 (wrap64 (Int.tmod (IntKind.u64.wrap (a1)) 64)) (wrap64 (1 + (wrap64 (Int.tmod (IntKind.u64.wrap (a2)) 64)))) a3).bind fun t163 => (if t163 = t156 then ((bits_Field.f a0 (wrap64 (Int.tmod (IntKind.u64.wrap (a1)) 64)) (wrap64 (1 + (wrap64 (Int.tmod (IntKind.u64.wrap (a2)) 64))))).bind fun t164 => ((bits_Place.f a0 (wrap64 (Int.tmod (IntKind.u64.wrap (a1)) 64)) (wrap64 (1 + (wrap64 (Int.tmod (IntKind.u64.wrap (a2)) 64)))) t164).bind fun t165 => (if t165 = a0 then ((postbaglaw01_lives.f).bind fun t166 => (some t166)) else (some false)))) else (some false))) else (some false)))) = some r := by rw [if_neg (show ¬ (false = true) by decide)] at H; exact H
        clear H
        have H := H1
        clear H1
        replace H := Option.bind_eq_some_iff.mp H
        obtain ⟨t161, A150, H⟩ := H
        replace H : ((bits_Field.f a3 0 (mn (wrap64 (1 + (wrap64 (Int.tmod (IntKind.u64.wrap (a2)) 64)))) (wrap64 (64 - (wrap64 (Int.tmod (IntKind.u64.wrap (a1)) 64)))))).bind fun t162 => (if t161 = t162 then ((bits_Place.f t156 (wrap64 (Int.tmod (IntKind.u64.wrap (a1)) 64)) (wrap64 (1 + (wrap64 (Int.tmod (IntKind.u64.wrap (a2)) 64)))) a3).bind fun t163 => (if t163 = t156 then ((bits_Field.f a0 (wrap64 (Int.tmod (IntKind.u64.wrap (a1)) 64)) (wrap64 (1 + (wrap64 (Int.tmod (IntKind.u64.wrap (a2)) 64))))).bind fun t164 => ((bits_Place.f a0 (wrap64 (Int.tmod (IntKind.u64.wrap (a1)) 64)) (wrap64 (1 + (wrap64 (Int.tmod (IntKind.u64.wrap (a2)) 64)))) t164).bind fun t165 => (if t165 = a0 then ((postbaglaw01_lives.f).bind fun t166 => (some t166)) else (some false)))) else (some false))) else (some false))) = some r := H
        have A15 := Aside0.mk A150
        clear A150
        obtain ⟨ji16, hji16⟩ : ∃ j_ : Int, (mn (wrap64 (1 + (wrap64 (Int.tmod (IntKind.u64.wrap (a2)) 64)))) (wrap64 (64 - (wrap64 (Int.tmod (IntKind.u64.wrap (a1)) 64))))) = j_ := ⟨_, rfl⟩
        replace H : ((bits_Field.f a3 0 (ji16)).bind fun t162 => (if t161 = t162 then ((bits_Place.f t156 (wrap64 (Int.tmod (IntKind.u64.wrap (a1)) 64)) (wrap64 (1 + (wrap64 (Int.tmod (IntKind.u64.wrap (a2)) 64)))) a3).bind fun t163 => (if t163 = t156 then ((bits_Field.f a0 (wrap64 (Int.tmod (IntKind.u64.wrap (a1)) 64)) (wrap64 (1 + (wrap64 (Int.tmod (IntKind.u64.wrap (a2)) 64))))).bind fun t164 => ((bits_Place.f a0 (wrap64 (Int.tmod (IntKind.u64.wrap (a1)) 64)) (wrap64 (1 + (wrap64 (Int.tmod (IntKind.u64.wrap (a2)) 64)))) t164).bind fun t165 => (if t165 = a0 then ((postbaglaw01_lives.f).bind fun t166 => (some t166)) else (some false)))) else (some false))) else (some false))) = some r := by first | (rw [hji16] at H; exact H) | (simp only [hji16] at H ⊢; exact H)
        (try rw [hji16] at A15)
        have hji16_ : (if (wrap64 (64 - (wrap64 (Int.tmod (IntKind.u64.wrap (a1)) 64)))) < (wrap64 (1 + (wrap64 (Int.tmod (IntKind.u64.wrap (a2)) 64)))) then (wrap64 (64 - (wrap64 (Int.tmod (IntKind.u64.wrap (a1)) 64)))) else (wrap64 (1 + (wrap64 (Int.tmod (IntKind.u64.wrap (a2)) 64))))) = ji16 := hji16
        replace H := Option.bind_eq_some_iff.mp H
        obtain ⟨t162, A170, H⟩ := H
        replace H : (if t161 = t162 then ((bits_Place.f t156 (wrap64 (Int.tmod (IntKind.u64.wrap (a1)) 64)) (wrap64 (1 + (wrap64 (Int.tmod (IntKind.u64.wrap (a2)) 64)))) a3).bind fun t163 => (if t163 = t156 then ((bits_Field.f a0 (wrap64 (Int.tmod (IntKind.u64.wrap (a1)) 64)) (wrap64 (1 + (wrap64 (Int.tmod (IntKind.u64.wrap (a2)) 64))))).bind fun t164 => ((bits_Place.f a0 (wrap64 (Int.tmod (IntKind.u64.wrap (a1)) 64)) (wrap64 (1 + (wrap64 (Int.tmod (IntKind.u64.wrap (a2)) 64)))) t164).bind fun t165 => (if t165 = a0 then ((postbaglaw01_lives.f).bind fun t166 => (some t166)) else (some false)))) else (some false))) else (some false)) = some r := H
        have A17 := Aside0.mk A170
        clear A170
        by_cases c18 : t161 = t162
        · rw [if_pos c18] at H
          have c18b0 : (t161 == t162) = true := beq_iff_eq.mpr c18
          have c18b1 : (t161 != t162) = false := bne_eq_false_iff_eq.mpr c18
          clear c18
          replace H := Option.bind_eq_some_iff.mp H
          obtain ⟨t163, A190, H⟩ := H
          replace H : (if t163 = t156 then ((bits_Field.f a0 (wrap64 (Int.tmod (IntKind.u64.wrap (a1)) 64)) (wrap64 (1 + (wrap64 (Int.tmod (IntKind.u64.wrap (a2)) 64))))).bind fun t164 => ((bits_Place.f a0 (wrap64 (Int.tmod (IntKind.u64.wrap (a1)) 64)) (wrap64 (1 + (wrap64 (Int.tmod (IntKind.u64.wrap (a2)) 64)))) t164).bind fun t165 => (if t165 = a0 then ((postbaglaw01_lives.f).bind fun t166 => (some t166)) else (some false)))) else (some false)) = some r := H
          have A19 := Aside0.mk A190
          clear A190
          by_cases c20 : t163 = t156
          · rw [if_pos c20] at H
            have c20b0 : (t163 == t156) = true := beq_iff_eq.mpr c20
            have c20b1 : (t163 != t156) = false := bne_eq_false_iff_eq.mpr c20
            clear c20
            replace H := Option.bind_eq_some_iff.mp H
            obtain ⟨t164, A210, H⟩ := H
            replace H : ((bits_Place.f a0 (wrap64 (Int.tmod (IntKind.u64.wrap (a1)) 64)) (wrap64 (1 + (wrap64 (Int.tmod (IntKind.u64.wrap (a2)) 64)))) t164).bind fun t165 => (if t165 = a0 then ((postbaglaw01_lives.f).bind fun t166 => (some t166)) else (some false))) = some r := H
            have A21 := Aside0.mk A210
            clear A210
            replace H := Option.bind_eq_some_iff.mp H
            obtain ⟨t165, A220, H⟩ := H
            replace H : (if t165 = a0 then ((postbaglaw01_lives.f).bind fun t166 => (some t166)) else (some false)) = some r := H
            have A22 := Aside0.mk A220
            clear A220
            by_cases c23 : t165 = a0
            · rw [if_pos c23] at H
              have c23b0 : (t165 == a0) = true := beq_iff_eq.mpr c23
              have c23b1 : (t165 != a0) = false := bne_eq_false_iff_eq.mpr c23
              clear c23
              replace H := Option.bind_eq_some_iff.mp H
              obtain ⟨t166, A240, H⟩ := H
              replace H : (some t166) = some r := H
              have A24 := Aside0.mk A240
              clear A240
              obtain rfl := Option.some.inj H
              go_wp2_with (first | ((with_reducible refine gate_callee (f := 18) rfl ?_); refine goesL_ (some 55) rfl rfl Try.func18 (by kernel_rfl) rfl #[.int .u64 t156, .int .i64 (wrap64 (Int.tmod (IntKind.u64.wrap (a1)) 64)), .int .i64 (wrap64 (1 + (wrap64 (Int.tmod (IntKind.u64.wrap (a2)) 64))))] rfl (by (try simp only [List.map_toArray, List.map_cons, List.map_nil]); first | done | rfl | (simp only [List.length_drop, List.length_take]; rfl)) ?_; (with_reducible refine (bits_Field.calls t156 (wrap64 (Int.tmod (IntKind.u64.wrap (a1)) 64)) (wrap64 (1 + (wrap64 (Int.tmod (IntKind.u64.wrap (a2)) 64)))) t161 _ A15.out).mono ?_); rintro e w' ⟨rfl, ⟨nd, rfl⟩⟩; refine ⟨_, rfl, ?_⟩) | ((with_reducible refine gate_callee (f := 18) rfl ?_); refine goesL_ (some 61) rfl rfl Try.func18 (by kernel_rfl) rfl #[.int .u64 a3, .int .i64 0, .int .i64 ji16] rfl (by (try simp only [List.map_toArray, List.map_cons, List.map_nil]); first | done | (simp only [hji16]; rfl) | rfl | (simp only [List.length_drop, List.length_take]; rfl)) ?_; (with_reducible refine (bits_Field.calls a3 0 ji16 t162 _ A17.out).mono ?_); rintro e w' ⟨rfl, ⟨nd, rfl⟩⟩; refine ⟨_, rfl, ?_⟩) | (go_at_call 20; (with_reducible refine (bits_Place.calls t156 (wrap64 (Int.tmod (IntKind.u64.wrap (a1)) 64)) (wrap64 (1 + (wrap64 (Int.tmod (IntKind.u64.wrap (a2)) 64)))) a3 t163 _ A19.out).mono ?_); rintro e w' ⟨rfl, ⟨nd, rfl⟩⟩) | (go_at_call 18; (with_reducible refine (bits_Field.calls a0 (wrap64 (Int.tmod (IntKind.u64.wrap (a1)) 64)) (wrap64 (1 + (wrap64 (Int.tmod (IntKind.u64.wrap (a2)) 64)))) t164 _ A21.out).mono ?_); rintro e w' ⟨rfl, ⟨nd, rfl⟩⟩) | (go_at_call 20; (with_reducible refine (bits_Place.calls a0 (wrap64 (Int.tmod (IntKind.u64.wrap (a1)) 64)) (wrap64 (1 + (wrap64 (Int.tmod (IntKind.u64.wrap (a2)) 64)))) t164 t165 _ A22.out).mono ?_); rintro e w' ⟨rfl, ⟨nd, rfl⟩⟩) | (go_at_call 13; (with_reducible refine (postbaglaw01_lives.calls  t166 _ A24.out).mono ?_); rintro e w25 ⟨rfl, hb⟩; have n0_ := Aside0.mk (below_step (by repeat (first | (with_reducible first | exact HB.out | apply below_alloc | apply pw_below_drewN | apply below_drew1) | exact HB.out)) hb); clear HB; have HB := n0_; clear n0_; (try clear hb); (try clear hb2); (try clear hk); (try clear hi)))
              go_ret
              exact ⟨by first | rfl | (simp [errW_none, errW_some] <;> rfl) | (simp only [← hji16]; first | rfl | (simp [errW_none, errW_some] <;> rfl)) | (simp [*, errW_none, errW_some] <;> rfl), by repeat (first | (with_reducible first | exact HB.out | apply below_alloc | apply pw_below_drewN | apply below_drew1) | exact HB.out)⟩
            · rw [if_neg c23] at H
              have c23b0 : (t165 == a0) = false := beq_eq_false_iff_ne.mpr c23
              have c23b1 : (t165 != a0) = true := bne_iff_ne.mpr c23
              obtain rfl := Option.some.inj H
              go_wp2_with (first | ((with_reducible refine gate_callee (f := 18) rfl ?_); refine goesL_ (some 55) rfl rfl Try.func18 (by kernel_rfl) rfl #[.int .u64 t156, .int .i64 (wrap64 (Int.tmod (IntKind.u64.wrap (a1)) 64)), .int .i64 (wrap64 (1 + (wrap64 (Int.tmod (IntKind.u64.wrap (a2)) 64))))] rfl (by (try simp only [List.map_toArray, List.map_cons, List.map_nil]); first | done | rfl | (simp only [List.length_drop, List.length_take]; rfl)) ?_; (with_reducible refine (bits_Field.calls t156 (wrap64 (Int.tmod (IntKind.u64.wrap (a1)) 64)) (wrap64 (1 + (wrap64 (Int.tmod (IntKind.u64.wrap (a2)) 64)))) t161 _ A15.out).mono ?_); rintro e w' ⟨rfl, ⟨nd, rfl⟩⟩; refine ⟨_, rfl, ?_⟩) | ((with_reducible refine gate_callee (f := 18) rfl ?_); refine goesL_ (some 61) rfl rfl Try.func18 (by kernel_rfl) rfl #[.int .u64 a3, .int .i64 0, .int .i64 ji16] rfl (by (try simp only [List.map_toArray, List.map_cons, List.map_nil]); first | done | (simp only [hji16]; rfl) | rfl | (simp only [List.length_drop, List.length_take]; rfl)) ?_; (with_reducible refine (bits_Field.calls a3 0 ji16 t162 _ A17.out).mono ?_); rintro e w' ⟨rfl, ⟨nd, rfl⟩⟩; refine ⟨_, rfl, ?_⟩) | (go_at_call 20; (with_reducible refine (bits_Place.calls t156 (wrap64 (Int.tmod (IntKind.u64.wrap (a1)) 64)) (wrap64 (1 + (wrap64 (Int.tmod (IntKind.u64.wrap (a2)) 64)))) a3 t163 _ A19.out).mono ?_); rintro e w' ⟨rfl, ⟨nd, rfl⟩⟩) | (go_at_call 18; (with_reducible refine (bits_Field.calls a0 (wrap64 (Int.tmod (IntKind.u64.wrap (a1)) 64)) (wrap64 (1 + (wrap64 (Int.tmod (IntKind.u64.wrap (a2)) 64)))) t164 _ A21.out).mono ?_); rintro e w' ⟨rfl, ⟨nd, rfl⟩⟩) | (go_at_call 20; (with_reducible refine (bits_Place.calls a0 (wrap64 (Int.tmod (IntKind.u64.wrap (a1)) 64)) (wrap64 (1 + (wrap64 (Int.tmod (IntKind.u64.wrap (a2)) 64)))) t164 t165 _ A22.out).mono ?_); rintro e w' ⟨rfl, ⟨nd, rfl⟩⟩))
              go_ret
              exact ⟨by first | rfl | (simp [errW_none, errW_some] <;> rfl) | (simp only [← hji16]; first | rfl | (simp [errW_none, errW_some] <;> rfl)) | (simp [*, errW_none, errW_some] <;> rfl), by repeat (first | (with_reducible first | exact HB.out | apply below_alloc | apply pw_below_drewN | apply below_drew1) | exact HB.out)⟩
          · rw [if_neg c20] at H
            have c20b0 : (t163 == t156) = false := beq_eq_false_iff_ne.mpr c20
            have c20b1 : (t163 != t156) = true := bne_iff_ne.mpr c20
            obtain rfl := Option.some.inj H
            go_wp2_with (first | ((with_reducible refine gate_callee (f := 18) rfl ?_); refine goesL_ (some 55) rfl rfl Try.func18 (by kernel_rfl) rfl #[.int .u64 t156, .int .i64 (wrap64 (Int.tmod (IntKind.u64.wrap (a1)) 64)), .int .i64 (wrap64 (1 + (wrap64 (Int.tmod (IntKind.u64.wrap (a2)) 64))))] rfl (by (try simp only [List.map_toArray, List.map_cons, List.map_nil]); first | done | rfl | (simp only [List.length_drop, List.length_take]; rfl)) ?_; (with_reducible refine (bits_Field.calls t156 (wrap64 (Int.tmod (IntKind.u64.wrap (a1)) 64)) (wrap64 (1 + (wrap64 (Int.tmod (IntKind.u64.wrap (a2)) 64)))) t161 _ A15.out).mono ?_); rintro e w' ⟨rfl, ⟨nd, rfl⟩⟩; refine ⟨_, rfl, ?_⟩) | ((with_reducible refine gate_callee (f := 18) rfl ?_); refine goesL_ (some 61) rfl rfl Try.func18 (by kernel_rfl) rfl #[.int .u64 a3, .int .i64 0, .int .i64 ji16] rfl (by (try simp only [List.map_toArray, List.map_cons, List.map_nil]); first | done | (simp only [hji16]; rfl) | rfl | (simp only [List.length_drop, List.length_take]; rfl)) ?_; (with_reducible refine (bits_Field.calls a3 0 ji16 t162 _ A17.out).mono ?_); rintro e w' ⟨rfl, ⟨nd, rfl⟩⟩; refine ⟨_, rfl, ?_⟩) | (go_at_call 20; (with_reducible refine (bits_Place.calls t156 (wrap64 (Int.tmod (IntKind.u64.wrap (a1)) 64)) (wrap64 (1 + (wrap64 (Int.tmod (IntKind.u64.wrap (a2)) 64)))) a3 t163 _ A19.out).mono ?_); rintro e w' ⟨rfl, ⟨nd, rfl⟩⟩))
            go_ret
            exact ⟨by first | rfl | (simp [errW_none, errW_some] <;> rfl) | (simp only [← hji16]; first | rfl | (simp [errW_none, errW_some] <;> rfl)) | (simp [*, errW_none, errW_some] <;> rfl), by repeat (first | (with_reducible first | exact HB.out | apply below_alloc | apply pw_below_drewN | apply below_drew1) | exact HB.out)⟩
        · rw [if_neg c18] at H
          have c18b0 : (t161 == t162) = false := beq_eq_false_iff_ne.mpr c18
          have c18b1 : (t161 != t162) = true := bne_iff_ne.mpr c18
          obtain rfl := Option.some.inj H
          go_wp2_with (first | ((with_reducible refine gate_callee (f := 18) rfl ?_); refine goesL_ (some 55) rfl rfl Try.func18 (by kernel_rfl) rfl #[.int .u64 t156, .int .i64 (wrap64 (Int.tmod (IntKind.u64.wrap (a1)) 64)), .int .i64 (wrap64 (1 + (wrap64 (Int.tmod (IntKind.u64.wrap (a2)) 64))))] rfl (by (try simp only [List.map_toArray, List.map_cons, List.map_nil]); first | done | rfl | (simp only [List.length_drop, List.length_take]; rfl)) ?_; (with_reducible refine (bits_Field.calls t156 (wrap64 (Int.tmod (IntKind.u64.wrap (a1)) 64)) (wrap64 (1 + (wrap64 (Int.tmod (IntKind.u64.wrap (a2)) 64)))) t161 _ A15.out).mono ?_); rintro e w' ⟨rfl, ⟨nd, rfl⟩⟩; refine ⟨_, rfl, ?_⟩) | ((with_reducible refine gate_callee (f := 18) rfl ?_); refine goesL_ (some 61) rfl rfl Try.func18 (by kernel_rfl) rfl #[.int .u64 a3, .int .i64 0, .int .i64 ji16] rfl (by (try simp only [List.map_toArray, List.map_cons, List.map_nil]); first | done | (simp only [hji16]; rfl) | rfl | (simp only [List.length_drop, List.length_take]; rfl)) ?_; (with_reducible refine (bits_Field.calls a3 0 ji16 t162 _ A17.out).mono ?_); rintro e w' ⟨rfl, ⟨nd, rfl⟩⟩; refine ⟨_, rfl, ?_⟩))
          go_ret
          exact ⟨by first | rfl | (simp [errW_none, errW_some] <;> rfl) | (simp only [← hji16]; first | rfl | (simp [errW_none, errW_some] <;> rfl)) | (simp [*, errW_none, errW_some] <;> rfl), by repeat (first | (with_reducible first | exact HB.out | apply below_alloc | apply pw_below_drewN | apply below_drew1) | exact HB.out)⟩

/-- THE ONE PURE STATEMENT of postbaglaw01_BitsParts: yours. -/
def postbaglaw01_BitsParts.Pure : Prop := ∀ (a0 : Int) (a1 : Int) (a2 : Int) (a3 : Int) (a4 : Int), (Lit.int .u64 a0).wf = true → (Lit.int .i64 a1).wf = true → (Lit.int .i64 a2).wf = true → (Lit.int .u64 a3).wf = true → (Lit.int .i64 a4).wf = true → ∃ k, postbaglaw01_BitsParts.f k a0 a1 a2 a3 a4 = some true
theorem postbaglaw01_BitsParts.walk (P : postbaglaw01_BitsParts.Pure) (a0 : Int) (a1 : Int) (a2 : Int) (a3 : Int) (a4 : Int) (w : World) (w0 : (Lit.int .u64 a0).wf = true) (w1 : (Lit.int .i64 a1).wf = true) (w2 : (Lit.int .i64 a2).wf = true) (w3 : (Lit.int .u64 a3).wf = true) (w4 : (Lit.int .i64 a4).wf = true) :
    Calls Try.prog 8 #[.int .u64 a0, .int .i64 a1, .int .i64 a2, .int .u64 a3, .int .i64 a4] w fun e w' => e = .returned (.bool true) ∧ Below w.heap.size w w' := by
  obtain ⟨k, h⟩ := P a0 a1 a2 a3 a4 w0 w1 w2 w3 w4
  refine (postbaglaw01_BitsParts.calls k a0 a1 a2 a3 a4 true w h).mono ?_
  rintro e w' ⟨rfl, hd⟩
  exact ⟨rfl, hd⟩

/-! ### bits_Quo0: function 22 -/
def bits_Quo0.j0 : Nat → Int → Int → Bool → Bool → Option (Int)
  | 0, _, _, _, _ => none
  | k + 1, x0, x1, x2, x10 => if x10 = true then (some (IntKind.u64.wrap (-x0))) else (if x2 = true then (if (wrap64 (x1)) = 0 then (none) else (some (IntKind.u64.wrap (wrap64 (Int.tdiv (wrap64 (x0)) (wrap64 (x1))))))) else (if x1 = 0 then (none) else (some (IntKind.u64.wrap (Int.tdiv x0 x1)))))
def bits_Quo0.f (k : Nat) (a0 : Int) (a1 : Int) (a2 : Bool) : Option (Int) := if a1 = 0 then (some 18446744073709551615) else (if a2 = true then (bits_Quo0.j0 k a0 a1 a2 (a1 == 18446744073709551615)) else (bits_Quo0.j0 k a0 a1 a2 false))
theorem bits_Quo0.mono_l : ∀ k, (∀ y0 y1 y2 y3, LeO (bits_Quo0.j0 k y0 y1 y2 y3) (bits_Quo0.j0 (k + 1) y0 y1 y2 y3))
  | 0 => fun _ _ _ _ r h => by simp [bits_Quo0.j0] at h
  | k + 1 => by
    have ih0 := bits_Quo0.mono_l k
    · intro y0 y1 y2 y3
      unfold bits_Quo0.j0
      repeat' first
      | (with_reducible exact ih0 _ _ _ _)
      | (with_reducible exact LeO.refl _)
      | (with_reducible exact LeO.none _)
      | (with_reducible refine LeO.ite ?_ ?_)
      | (with_reducible refine LeO.bind ?_ (fun _ => ?_))
      | exact ih0 _ _ _ _
      | exact LeO.none _
      | refine LeO.ite ?_ ?_
      | refine LeO.bind ?_ (fun _ => ?_)
theorem bits_Quo0.mono : ∀ a0 a1 a2 k, LeO (bits_Quo0.f k a0 a1 a2) (bits_Quo0.f (k + 1) a0 a1 a2) := by
  intro a0 a1 a2 k
  have ih0 := bits_Quo0.mono_l k
  unfold bits_Quo0.f
  repeat' first
      | (with_reducible exact ih0 _ _ _ _)
      | (with_reducible exact LeO.refl _)
      | (with_reducible exact LeO.none _)
      | (with_reducible refine LeO.ite ?_ ?_)
      | (with_reducible refine LeO.bind ?_ (fun _ => ?_))
      | exact ih0 _ _ _ _
      | exact LeO.none _
      | refine LeO.ite ?_ ?_
      | refine LeO.bind ?_ (fun _ => ?_)
set_option maxHeartbeats 8000000 in
set_option maxRecDepth 100000 in
theorem bits_Quo0.calls (k : Nat) (a0 : Int) (a1 : Int) (a2 : Bool) (r : Int) (w : World) (h : bits_Quo0.f k a0 a1 a2 = some r) :
    Calls Try.prog 22 #[.int .u64 a0, .int .u64 a1, .bool a2] w fun e w' => e = .returned (.int .u64 r) ∧ Drawn0 w w' := by
  have H : (if a1 = 0 then (some 18446744073709551615) else (if a2 = true then (bits_Quo0.j0 k a0 a1 a2 (a1 == 18446744073709551615)) else (bits_Quo0.j0 k a0 a1 a2 false))) = some r := h
  clear h
  by_cases c4 : a1 = 0
  · rw [if_pos c4] at H
    have c4b0 : (a1 == 0) = true := beq_iff_eq.mpr c4
    have c4b1 : (a1 != 0) = false := bne_eq_false_iff_eq.mpr c4
    clear c4
    obtain rfl := Option.some.inj H
    go_enter Try.func22, Try.ntmps22
    go_wp2
    go_ret
    exact ⟨by first | rfl | (simp; done) | (simp [*]; done), by repeat (first | exact Drawn0.refl _ | apply Drawn0.step)⟩
  · rw [if_neg c4] at H
    have c4b0 : (a1 == 0) = false := beq_eq_false_iff_ne.mpr c4
    have c4b1 : (a1 != 0) = true := bne_iff_ne.mpr c4
    have HC5 := Aside0.mk H
    clear H
    go_enter Try.func22, Try.ntmps22
    go_upto_region 3 with (fail)
    go_cut [10] (fun v10 wc => ∃ (kq : Nat) (x10_4 : Bool), v10 = .bool x10_4 ∧ Aside0 (bits_Quo0.j0 kq a0 a1 a2 x10_4 = some r) ∧ Aside0 (kq ≤ k) ∧ Drawn0 w wc)
    case first =>
      have H := HC5.out
      clear HC5
      by_cases c6 : a2 = true
      · subst c6
        have H1 : (bits_Quo0.j0 k a0 a1 true (a1 == 18446744073709551615)) = some r := by rw [if_pos rfl] at H; exact H
        clear H
        have H := H1
        clear H1
        have H' := Aside0.mk H
        clear H
        go_wp2
        go_meet
        case rel => exact ⟨_, ((a1 == 18446744073709551615)), (by first | rfl | (simp; done) | (simp [*]; done)), H', ⟨by first | omega | exact Nat.le_refl _⟩, by repeat (first | exact Drawn0.refl _ | apply Drawn0.step)⟩
      · replace c6 := Bool.eq_false_iff.mpr c6
        subst c6
        have H1 : (bits_Quo0.j0 k a0 a1 false false) = some r := by rw [if_neg (show ¬ (false = true) by decide)] at H; exact H
        clear H
        have H := H1
        clear H1
        have H' := Aside0.mk H
        clear H
        go_wp2
        go_meet
        case rel => exact ⟨_, (false), (by first | rfl | (simp; done) | (simp [*]; done)), H', ⟨by first | omega | exact Nat.le_refl _⟩, by repeat (first | exact Drawn0.refl _ | apply Drawn0.step)⟩
    case rest =>
      clear HC5
      try clear c2
      try clear p2
      try clear c4
      try clear c4b0
      try clear c4b1
      try clear c6
      obtain ⟨kq, x10_4, rfl, HA, HJ4, ⟨mc4, rfl⟩⟩ := hcut
      cases kq with
      | zero => exact absurd HA.out (by simp [bits_Quo0.j0])
      | succ kj4 =>
        have H := HA.out
        clear HA
        simp only [bits_Quo0.j0] at H
        by_cases c7 : x10_4 = true
        · subst c7
          have H1 : (some (IntKind.u64.wrap (-a0))) = some r := by rw [if_pos rfl] at H; exact H
          clear H
          have H := H1
          clear H1
          obtain rfl := Option.some.inj H
          go_wp2
          go_ret
          exact ⟨by first | rfl | (simp; done) | (simp [*]; done), by repeat (first | exact Drawn0.refl _ | apply Drawn0.step)⟩
        · replace c7 := Bool.eq_false_iff.mpr c7
          subst c7
          have H1 : (if a2 = true then (if (wrap64 (a1)) = 0 then (none) else (some (IntKind.u64.wrap (wrap64 (Int.tdiv (wrap64 (a0)) (wrap64 (a1))))))) else (if a1 = 0 then (none) else (some (IntKind.u64.wrap (Int.tdiv a0 a1))))) = some r := by rw [if_neg (show ¬ (false = true) by decide)] at H; exact H
          clear H
          have H := H1
          clear H1
          by_cases c8 : a2 = true
          · subst c8
            have H1 : (if (wrap64 (a1)) = 0 then (none) else (some (IntKind.u64.wrap (wrap64 (Int.tdiv (wrap64 (a0)) (wrap64 (a1))))))) = some r := by rw [if_pos rfl] at H; exact H
            clear H
            have H := H1
            clear H1
            by_cases c9 : (wrap64 (a1)) = 0
            · rw [if_pos c9] at H
              exact absurd H (by simp)
            · rw [if_neg c9] at H
              have c9b0 : ((wrap64 (a1)) == 0) = false := beq_eq_false_iff_ne.mpr c9
              have c9b1 : ((wrap64 (a1)) != 0) = true := bne_iff_ne.mpr c9
              obtain rfl := Option.some.inj H
              go_wp2
              go_ret
              exact ⟨by first | rfl | (simp; done) | (simp [*]; done), by repeat (first | exact Drawn0.refl _ | apply Drawn0.step)⟩
          · replace c8 := Bool.eq_false_iff.mpr c8
            subst c8
            have H1 : (if a1 = 0 then (none) else (some (IntKind.u64.wrap (Int.tdiv a0 a1)))) = some r := by rw [if_neg (show ¬ (false = true) by decide)] at H; exact H
            clear H
            have H := H1
            clear H1
            by_cases c10 : a1 = 0
            · rw [if_pos c10] at H
              exact absurd H (by simp)
            · rw [if_neg c10] at H
              have c10b0 : (a1 == 0) = false := beq_eq_false_iff_ne.mpr c10
              have c10b1 : (a1 != 0) = true := bne_iff_ne.mpr c10
              obtain rfl := Option.some.inj H
              go_wp2
              go_ret
              exact ⟨by first | rfl | (simp; done) | (simp [*]; done), by repeat (first | exact Drawn0.refl _ | apply Drawn0.step)⟩
def bits_Quo.f (a0 : Int) (a1 : Int) (a2 : Bool) : Option (Int) := if U64 a0 ∧ U64 a1 then some (quoOf a0 a1 a2) else none
theorem bits_Quo.spec (a0 a1 : Int) (a2 : Bool) (r : Int) (h : bits_Quo.f a0 a1 a2 = some r) : ∃ k, bits_Quo0.f k a0 a1 a2 = some r := by
  unfold bits_Quo.f at h
  by_cases hu : U64 a0 ∧ U64 a1
  · rw [if_pos hu] at h
    obtain rfl := Option.some.inj h
    refine ⟨1, ?_⟩
    unfold bits_Quo0.f quoOf
    by_cases h0 : a1 = 0
    · rw [if_pos h0, if_pos h0]
    · rw [if_neg h0, if_neg h0]
      have hw := hu
      unfold U64 at hw
      cases a2
      · simp only [Bool.false_eq_true, if_false, bits_Quo0.j0]
        rw [if_neg h0, Int.tdiv_eq_ediv_of_nonneg hu.1.1, U64.wrap_eq]
        exact ⟨Int.ediv_nonneg hu.1.1 hu.2.1, Int.le_trans (Int.ediv_le_self _ hu.1.1) hu.1.2⟩
      · simp only [if_true, bits_Quo0.j0]
        by_cases h1 : a1 = 18446744073709551615
        · subst h1
          rw [if_pos (by decide)]
          have : wrap64 18446744073709551615 = -1 := by unfold wrap64; omega
          rw [this, Int.tdiv_neg, Int.tdiv_one]
          congr 1; simp only [u64w]; unfold wrap64; omega
        · rw [if_neg (by simpa using h1), if_neg (by unfold wrap64; omega)]
          congr 1; simp only [u64w]; unfold wrap64; omega
  · rw [if_neg hu] at h; exact absurd h (by simp)
theorem bits_Quo.eq {a0 a1 : Int} (h : U64 a0) (h1 : U64 a1) (a2 : Bool) : bits_Quo.f a0 a1 a2 = some (quoOf a0 a1 a2) := if_pos ⟨h, h1⟩

theorem bits_Quo.calls (a0 : Int) (a1 : Int) (a2 : Bool) (r : Int) (w : World) (h : bits_Quo.f a0 a1 a2 = some r) :
    Calls Try.prog 22 #[.int .u64 a0, .int .u64 a1, .bool a2] w fun e w' => e = .returned (.int .u64 r) ∧ Drawn0 w w' := by
  obtain ⟨k, hk⟩ := bits_Quo.spec a0 a1 a2 r h
  exact bits_Quo0.calls k a0 a1 a2 r w hk

end Go.Proofs.Ytlclelgcdainfaa.PAll
