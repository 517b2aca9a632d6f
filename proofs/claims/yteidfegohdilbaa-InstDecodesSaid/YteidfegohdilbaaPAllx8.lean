/- DERIVED. The contracts of the Go functions that one law reaches: each call returns what the plain function beside it says, under that theorem's own premises. Written by a program (hp.py) over the kit's printed words. -/
import Derived.Test.YteidfegohdilbaaPAllx0
import Derived.Test.YteidfegohdilbaaPAllx2
import Derived.Test.YteidfegohdilbaaPAllx4
import Derived.Test.YteidfegohdilbaaPAllx6
import Derived.Test.YteidfegohdilbaaPAllx7
namespace Go.Proofs.Yteidfegohdilbaa.PAll
open Go.RowKit Go.Proofs.YteidfegohdilbaaW.PrintWords Go.Proofs.YteidfegohdilbaaW.PrintLast Go.Proofs.YteidfegohdilbaaW.PrintMore Go.Proofs.Yteidfegohdilbaa.M
attribute [local go_sem] max2_int min2_int max_two min_two max_three min_three max_four min_four   -- for this text's walks alone
set_option linter.unusedVariables false
set_option linter.unusedSimpArgs false

/-! ### postbagref01_Field0: function 50 -/
mutual
def postbagref01_Field0.j0 : Nat → Int → Int → Int → Bool → Option (Int)
  | 0, _, _, _, _ => none
  | k + 1, x0, x1, x2, x18 => if x18 = true then (some 0) else (postbagref01_Field0.l0 k x0 x1 x2 0 0)
def postbagref01_Field0.l0 : Nat → Int → Int → Int → Int → Int → Option (Int)
  | 0, _, _, _, _, _ => none
  | k + 1, x0, x1, x2, x7, x8 => if x8 < x2 then (postbagref01_Field0.j2 k x0 x1 x2 x7 x8 (decide (x8 < (wrap64 (64 - x1))))) else (postbagref01_Field0.j2 k x0 x1 x2 x7 x8 false)
def postbagref01_Field0.j2 : Nat → Int → Int → Int → Int → Int → Bool → Option (Int)
  | 0, _, _, _, _, _, _ => none
  | k + 1, x0, x1, x2, x7, x8, x27 => if x27 = true then ((postbagref01_Bit.f x0 (wrap64 (x1 + x8))).bind fun t165 => ((postbagref01_power.f x8).bind fun t166 => (postbagref01_Field0.l0 k x0 x1 x2 (IntKind.u64.wrap (x7 + (IntKind.u64.wrap (t165 * t166)))) (wrap64 (x8 + 1))))) else (some x7)
end
def postbagref01_Field0.f (k : Nat) (a0 : Int) (a1 : Int) (a2 : Int) : Option (Int) := if a1 < 0 then (postbagref01_Field0.j0 k a0 a1 a2 true) else (if a1 > 63 then (postbagref01_Field0.j0 k a0 a1 a2 true) else (postbagref01_Field0.j0 k a0 a1 a2 (decide (a2 < 1))))
theorem postbagref01_Field0.mono_l : ∀ k, (∀ y0 y1 y2 y3, LeO (postbagref01_Field0.j0 k y0 y1 y2 y3) (postbagref01_Field0.j0 (k + 1) y0 y1 y2 y3)) ∧ (∀ y0 y1 y2 y3 y4, LeO (postbagref01_Field0.l0 k y0 y1 y2 y3 y4) (postbagref01_Field0.l0 (k + 1) y0 y1 y2 y3 y4)) ∧ (∀ y0 y1 y2 y3 y4 y5, LeO (postbagref01_Field0.j2 k y0 y1 y2 y3 y4 y5) (postbagref01_Field0.j2 (k + 1) y0 y1 y2 y3 y4 y5))
  | 0 => ⟨fun _ _ _ _ r h => by simp [postbagref01_Field0.j0] at h, fun _ _ _ _ _ r h => by simp [postbagref01_Field0.l0] at h, fun _ _ _ _ _ _ r h => by simp [postbagref01_Field0.j2] at h⟩
  | k + 1 => by
    obtain ⟨ih0, ih1, ih2⟩ := postbagref01_Field0.mono_l k
    refine ⟨?_, ?_, ?_⟩
    · intro y0 y1 y2 y3
      unfold postbagref01_Field0.j0
      repeat' first
      | (with_reducible exact ih0 _ _ _ _)
      | (with_reducible exact ih1 _ _ _ _ _)
      | (with_reducible exact ih2 _ _ _ _ _ _)
      | (with_reducible exact LeO.refl _)
      | (with_reducible exact LeO.none _)
      | (with_reducible refine LeO.ite ?_ ?_)
      | (with_reducible refine LeO.bind ?_ (fun _ => ?_))
      | exact ih0 _ _ _ _
      | exact ih1 _ _ _ _ _
      | exact ih2 _ _ _ _ _ _
      | exact LeO.none _
      | refine LeO.ite ?_ ?_
      | refine LeO.bind ?_ (fun _ => ?_)
    · intro y0 y1 y2 y3 y4
      unfold postbagref01_Field0.l0
      repeat' first
      | (with_reducible exact ih0 _ _ _ _)
      | (with_reducible exact ih1 _ _ _ _ _)
      | (with_reducible exact ih2 _ _ _ _ _ _)
      | (with_reducible exact LeO.refl _)
      | (with_reducible exact LeO.none _)
      | (with_reducible refine LeO.ite ?_ ?_)
      | (with_reducible refine LeO.bind ?_ (fun _ => ?_))
      | exact ih0 _ _ _ _
      | exact ih1 _ _ _ _ _
      | exact ih2 _ _ _ _ _ _
      | exact LeO.none _
      | refine LeO.ite ?_ ?_
      | refine LeO.bind ?_ (fun _ => ?_)
    · intro y0 y1 y2 y3 y4 y5
      unfold postbagref01_Field0.j2
      repeat' first
      | (with_reducible exact ih0 _ _ _ _)
      | (with_reducible exact ih1 _ _ _ _ _)
      | (with_reducible exact ih2 _ _ _ _ _ _)
      | (with_reducible exact LeO.refl _)
      | (with_reducible exact LeO.none _)
      | (with_reducible refine LeO.ite ?_ ?_)
      | (with_reducible refine LeO.bind ?_ (fun _ => ?_))
      | exact ih0 _ _ _ _
      | exact ih1 _ _ _ _ _
      | exact ih2 _ _ _ _ _ _
      | exact LeO.none _
      | refine LeO.ite ?_ ?_
      | refine LeO.bind ?_ (fun _ => ?_)
theorem postbagref01_Field0.mono : ∀ a0 a1 a2 k, LeO (postbagref01_Field0.f k a0 a1 a2) (postbagref01_Field0.f (k + 1) a0 a1 a2) := by
  intro a0 a1 a2 k
  obtain ⟨ih0, ih1, ih2⟩ := postbagref01_Field0.mono_l k
  unfold postbagref01_Field0.f
  repeat' first
      | (with_reducible exact ih0 _ _ _ _)
      | (with_reducible exact ih1 _ _ _ _ _)
      | (with_reducible exact ih2 _ _ _ _ _ _)
      | (with_reducible exact LeO.refl _)
      | (with_reducible exact LeO.none _)
      | (with_reducible refine LeO.ite ?_ ?_)
      | (with_reducible refine LeO.bind ?_ (fun _ => ?_))
      | exact ih0 _ _ _ _
      | exact ih1 _ _ _ _ _
      | exact ih2 _ _ _ _ _ _
      | exact LeO.none _
      | refine LeO.ite ?_ ?_
      | refine LeO.bind ?_ (fun _ => ?_)
set_option maxHeartbeats 8000000 in
set_option maxRecDepth 100000 in
theorem postbagref01_Field0.calls (k : Nat) (a0 : Int) (a1 : Int) (a2 : Int) (r : Int) (w : World) (h : postbagref01_Field0.f k a0 a1 a2 = some r) :
    Calls Try.prog 50 #[.int .u64 a0, .int .i64 a1, .int .i64 a2] w fun e w' => e = .returned (.int .u64 r) ∧ Drawn0 w w' := by
  have H : (if a1 < 0 then (postbagref01_Field0.j0 k a0 a1 a2 true) else (if a1 > 63 then (postbagref01_Field0.j0 k a0 a1 a2 true) else (postbagref01_Field0.j0 k a0 a1 a2 (decide (a2 < 1))))) = some r := h
  clear h
  have HC4 := Aside0.mk H
  clear H
  go_enter Try.func50, Try.ntmps50
  go_upto_region 1 with (fail)
  go_cut [18] (fun v18 wc => ∃ (kq : Nat) (x18_3 : Bool), v18 = .bool x18_3 ∧ Aside0 (postbagref01_Field0.j0 kq a0 a1 a2 x18_3 = some r) ∧ Aside0 (kq ≤ k) ∧ Drawn0 w wc)
  case first =>
    have H := HC4.out
    clear HC4
    by_cases c5 : a1 < 0
    · rw [if_pos c5] at H
      have c5b0 : decide (a1 < 0) = true := decide_eq_true c5
      clear c5
      (first | rw [c5b0] | (simp only [i64_w, i32_w]; rw [c5b0]) | skip)
      have H' := Aside0.mk H
      clear H
      go_wp2
      go_meet
      case rel => exact ⟨_, (true), (by first | rfl | (simp; done) | (simp [*]; done)), H', ⟨by first | omega | exact Nat.le_refl _⟩, by repeat (first | exact Drawn0.refl _ | apply Drawn0.step)⟩
    · rw [if_neg c5] at H
      have c5b0 : decide (a1 < 0) = false := decide_eq_false c5
      clear c5
      (first | rw [c5b0] | (simp only [i64_w, i32_w]; rw [c5b0]) | skip)
      by_cases c6 : a1 > 63
      · rw [if_pos c6] at H
        have c6b0 : decide (63 < a1) = true := decide_eq_true c6
        clear c6
        have H' := Aside0.mk H
        clear H
        go_wp2
        go_meet
        case rel => exact ⟨_, (true), (by first | rfl | (simp; done) | (simp [*]; done)), H', ⟨by first | omega | exact Nat.le_refl _⟩, by repeat (first | exact Drawn0.refl _ | apply Drawn0.step)⟩
      · rw [if_neg c6] at H
        have c6b0 : decide (63 < a1) = false := decide_eq_false c6
        clear c6
        have H' := Aside0.mk H
        clear H
        go_wp2
        go_meet
        case rel => exact ⟨_, (decide (a2 < 1)), (by first | rfl | (simp; done) | (simp [*]; done)), H', ⟨by first | omega | exact Nat.le_refl _⟩, by repeat (first | exact Drawn0.refl _ | apply Drawn0.step)⟩
  case rest =>
    clear HC4
    try clear p2
    try clear c5
    try clear c5b0
    try clear c6
    try clear c6b0
    obtain ⟨kq, x18_3, rfl, HA, HJ3, ⟨mc3, rfl⟩⟩ := hcut
    cases kq with
    | zero => exact absurd HA.out (by simp [postbagref01_Field0.j0])
    | succ kj3 =>
      have H := HA.out
      clear HA
      simp only [postbagref01_Field0.j0] at H
      by_cases c7 : x18_3 = true
      · subst c7
        have H1 : (some 0) = some r := by rw [if_pos rfl] at H; exact H
        clear H
        have H := H1
        clear H1
        obtain rfl := Option.some.inj H
        go_wp2
        go_ret
        exact ⟨by first | rfl | (simp; done) | (simp [*]; done), by repeat (first | exact Drawn0.refl _ | apply Drawn0.step)⟩
      · replace c7 := Bool.eq_false_iff.mpr c7
        subst c7
        have H1 : (postbagref01_Field0.l0 kj3 a0 a1 a2 0 0) = some r := by rw [if_neg (show ¬ (false = true) by decide)] at H; exact H
        clear H
        have H := H1
        clear H1
        have H' := Aside0.mk H
        clear H
        go_wp2
        go_loopg [7, 8] kj3 (fun kq v7 v8 w' => ∃ (x7_2 : Int) (x8_2 : Int), v7 = .int .u64 x7_2 ∧ v8 = .int .i64 x8_2 ∧ Aside0 (postbagref01_Field0.l0 kq a0 a1 a2 x7_2 x8_2 = some r) ∧ Aside0 (kq ≤ kj3) ∧ Drawn0 w w')
        case atStart => exact ⟨(0), (0), (by first | rfl | (simp; done) | (simp [*]; done)), (by first | rfl | (simp; done) | (simp [*]; done)), H', ⟨Nat.le_refl _⟩, by repeat (first | exact Drawn0.refl _ | apply Drawn0.step)⟩
        case round =>
          clear H'
          try clear p2
          try clear c3
          try clear c5
          try clear c5b0
          try clear c6
          try clear c6b0
          try clear c7
          try clear p2
          obtain ⟨x7_2, x8_2, rfl, rfl, HA, HK2, ⟨m2, rfl⟩⟩ := hrel
          cases gk with
          | zero => exact absurd HA.out (by simp [postbagref01_Field0.l0])
          | succ k2 =>
            have H := HA.out
            clear HA
            simp only [postbagref01_Field0.l0] at H
            have HC8 := Aside0.mk H
            clear H
            go_upto_region 5 with (fail)
            go_cut [27] (fun v27 wc => ∃ (kq : Nat) (x27_7 : Bool), v27 = .bool x27_7 ∧ Aside0 (postbagref01_Field0.j2 kq a0 a1 a2 x7_2 x8_2 x27_7 = some r) ∧ Aside0 (kq ≤ k2) ∧ Drawn0 w wc)
            case first =>
              have H := HC8.out
              clear HC8
              by_cases c9 : x8_2 < a2
              · rw [if_pos c9] at H
                have c9b0 : decide (x8_2 < a2) = true := decide_eq_true c9
                clear c9
                (first | rw [c9b0] | (simp only [i64_w, i32_w]; rw [c9b0]) | skip)
                have H' := Aside0.mk H
                clear H
                go_wp2
                go_meet
                case rel => exact ⟨_, (decide (x8_2 < (wrap64 (64 - a1)))), (by first | rfl | (simp; done) | (simp [*]; done)), H', ⟨by have := HJ3.out; have := HK2.out; first | omega | exact Nat.le_refl _⟩, by repeat (first | exact Drawn0.refl _ | apply Drawn0.step)⟩
              · rw [if_neg c9] at H
                have c9b0 : decide (x8_2 < a2) = false := decide_eq_false c9
                clear c9
                (first | rw [c9b0] | (simp only [i64_w, i32_w]; rw [c9b0]) | skip)
                have H' := Aside0.mk H
                clear H
                go_wp2
                go_meet
                case rel => exact ⟨_, (false), (by first | rfl | (simp; done) | (simp [*]; done)), H', ⟨by have := HJ3.out; have := HK2.out; first | omega | exact Nat.le_refl _⟩, by repeat (first | exact Drawn0.refl _ | apply Drawn0.step)⟩
            case rest =>
              clear HC8
              try clear p2
              try clear c3
              try clear c5
              try clear c5b0
              try clear c6
              try clear c6b0
              try clear p6
              try clear c7
              try clear c9
              try clear c9b0
              try clear p2
              obtain ⟨kq, x27_7, rfl, HA, HJ7, ⟨mc7, rfl⟩⟩ := hcut
              cases kq with
              | zero => exact absurd HA.out (by simp [postbagref01_Field0.j2])
              | succ kj7 =>
                have H := HA.out
                clear HA
                simp only [postbagref01_Field0.j2] at H
                by_cases c10 : x27_7 = true
                · subst c10
                  have H1 : ((postbagref01_Bit.f a0 (wrap64 (a1 + x8_2))).bind fun t165 => ((postbagref01_power.f x8_2).bind fun t166 => (postbagref01_Field0.l0 kj7 a0 a1 a2 (IntKind.u64.wrap (x7_2 + (IntKind.u64.wrap (t165 * t166)))) (wrap64 (x8_2 + 1))))) = some r := by rw [if_pos rfl] at H; exact H
                  clear H
                  have H := H1
                  clear H1
                  replace H := Option.bind_eq_some_iff.mp H
                  obtain ⟨t165, A110, H⟩ := H
                  replace H : ((postbagref01_power.f x8_2).bind fun t166 => (postbagref01_Field0.l0 kj7 a0 a1 a2 (IntKind.u64.wrap (x7_2 + (IntKind.u64.wrap (t165 * t166)))) (wrap64 (x8_2 + 1)))) = some r := H
                  have A11 := Aside0.mk A110
                  clear A110
                  replace H := Option.bind_eq_some_iff.mp H
                  obtain ⟨t166, A120, H⟩ := H
                  replace H : (postbagref01_Field0.l0 kj7 a0 a1 a2 (IntKind.u64.wrap (x7_2 + (IntKind.u64.wrap (t165 * t166)))) (wrap64 (x8_2 + 1))) = some r := H
                  have A12 := Aside0.mk A120
                  clear A120
                  have H' := Aside0.mk H
                  clear H
                  go_wp2_with (first | ((with_reducible refine gate_callee (f := 59) rfl ?_); refine goesL_ (some 35) rfl rfl Try.func59 (by kernel_rfl) rfl #[.int .u64 a0, .int .i64 (wrap64 (a1 + x8_2))] rfl (by (try simp only [List.map_toArray, List.map_cons, List.map_nil]); first | done | rfl | (simp only [List.length_drop, List.length_take]; rfl)) ?_; (with_reducible refine (postbagref01_Bit.calls a0 (wrap64 (a1 + x8_2)) t165 _ A11.out).mono ?_); rintro e w' ⟨rfl, ⟨nd, rfl⟩⟩; refine ⟨_, rfl, ?_⟩) | ((with_reducible refine gate_callee (f := 60) rfl ?_); refine goesL_ (some 37) rfl rfl Try.func60 (by kernel_rfl) rfl #[.int .i64 x8_2] rfl (by (try simp only [List.map_toArray, List.map_cons, List.map_nil]); first | done | rfl | (simp only [List.length_drop, List.length_take]; rfl)) ?_; (with_reducible refine (postbagref01_power.calls x8_2 t166 _ A12.out).mono ?_); rintro e w' ⟨rfl, ⟨nd, rfl⟩⟩; refine ⟨_, rfl, ?_⟩))
                  go_roundg kj7
                  case measure => have := HJ3.out; have := HK2.out; have := HJ7.out; omega
                  case rel => exact ⟨(IntKind.u64.wrap (x7_2 + (IntKind.u64.wrap (t165 * t166)))), (wrap64 (x8_2 + 1)), (by first | rfl | (simp; done) | (simp [*]; done)), (by first | rfl | (simp; done) | (simp [*]; done)), H', ⟨by have := HJ3.out; have := HK2.out; have := HJ7.out; omega⟩, by repeat (first | exact Drawn0.refl _ | apply Drawn0.step)⟩
                · replace c10 := Bool.eq_false_iff.mpr c10
                  subst c10
                  have H1 : (some x7_2) = some r := by rw [if_neg (show ¬ (false = true) by decide)] at H; exact H
                  clear H
                  have H := H1
                  clear H1
                  obtain rfl := Option.some.inj H
                  go_wp2
                  go_ret
                  exact ⟨by first | rfl | (simp; done) | (simp [*]; done), by repeat (first | exact Drawn0.refl _ | apply Drawn0.step)⟩
def postbagref01_Field.f (a0 : Int) (a1 : Int) (a2 : Int) : Option (Int) := if U64 a0 then some (fieldOf a0 a1 a2) else none
theorem postbagref01_Field.loop (X L M : Nat) (hX : X < 2 ^ 64) (hL : L ≤ 63) (d : Nat) : ∀ (k i : Nat), i + d = min M (64 - L) → 2 * d + 1 < k →
    postbagref01_Field0.l0 k X L M ((X / 2 ^ L % 2 ^ i : Nat) : Int) i = some ((X / 2 ^ L % 2 ^ (min M 64) : Nat) : Int) := by
  have hend : ∀ (k i : Nat), i = min M (64 - L) → 1 < k → postbagref01_Field0.l0 k X L M ((X / 2 ^ L % 2 ^ i : Nat) : Int) i = some ((X / 2 ^ L % 2 ^ (min M 64) : Nat) : Int) := by
    intro k i hi hk
    obtain ⟨k, rfl⟩ : ∃ m, k = m + 2 := ⟨k - 2, by omega⟩
    simp only [postbagref01_Field0.l0]
    have : postbagref01_Field0.j2 (k + 1) X L M ((X / 2 ^ L % 2 ^ i : Nat) : Int) i false = some ((X / 2 ^ L % 2 ^ (min M 64) : Nat) : Int) := by
      simp only [postbagref01_Field0.j2]; rw [if_neg (by decide), hi, field_all X L M hX hL]
    by_cases hM : (i : Int) < M
    · rw [if_pos hM, I64.wrap_eq (by unfold I64; omega), decide_eq_false (by omega)]; exact this
    · rw [if_neg hM]; exact this
  induction d with
  | zero => intro k i hi hk; exact hend k i (by omega) (by omega)
  | succ d ih =>
    intro k i hi hk
    obtain ⟨k, rfl⟩ : ∃ m, k = m + 2 := ⟨k - 2, by omega⟩
    simp only [postbagref01_Field0.l0]
    rw [if_pos (by omega), I64.wrap_eq (by unfold I64; omega), decide_eq_true (by omega)]
    simp only [postbagref01_Field0.j2]
    rw [if_pos trivial, I64.wrap_eq (by unfold I64; omega), I64.wrap_eq (by unfold I64; omega), postbagref01_Bit.eq (U64.mk hX)]
    simp only [Option.bind_some, postbagref01_power.f]
    have e1 : bitOf (X : Int) ((L : Int) + i) = ((X / 2 ^ (L + i) % 2 : Nat) : Int) := by
      rw [show ((L : Int) + i) = ((L + i : Nat) : Int) from by omega, bitOf_nat _ _ (by omega)]; simp
    have e2 : powOf (i : Int) = ((2 ^ i : Nat) : Int) := by unfold powOf; rw [if_neg (by omega), if_neg (by omega), Int.toNat_natCast, ipow]
    have hlt : X / 2 ^ L % 2 ^ (i + 1) < 2 ^ 64 := Nat.lt_of_le_of_lt (Nat.le_trans (Nat.mod_le _ _) (Nat.div_le_self _ _)) hX
    have hs := field_step X L i
    have e3 : IntKind.u64.wrap (((X / 2 ^ (L + i) % 2 : Nat) : Int) * ((2 ^ i : Nat) : Int)) = ((X / 2 ^ (L + i) % 2 * 2 ^ i : Nat) : Int) := by
      rw [← Int.natCast_mul]; exact wrap_nat _ (by omega)
    rw [e1, e2, e3, ← Int.natCast_add, ← hs, wrap_nat _ hlt, show ((i : Int) + 1) = ((i + 1 : Nat) : Int) from by omega]
    exact ih k (i + 1) (by omega) (by omega)
theorem postbagref01_Field.spec (a0 a1 a2 r : Int) (h : postbagref01_Field.f a0 a1 a2 = some r) : ∃ k, postbagref01_Field0.f k a0 a1 a2 = some r := by
  unfold postbagref01_Field.f at h
  by_cases hu : U64 a0
  · rw [if_pos hu] at h
    obtain rfl := Option.some.inj h
    refine ⟨133, ?_⟩
    unfold postbagref01_Field0.f
    by_cases h1 : a1 < 0
    · rw [if_pos h1]; simp only [postbagref01_Field0.j0, if_true, fieldOf]; rw [if_pos (Or.inl h1)]
    · rw [if_neg h1]
      by_cases h2 : a1 > 63
      · rw [if_pos h2]; simp only [postbagref01_Field0.j0, if_true, fieldOf]; rw [if_pos (Or.inr (Or.inl h2))]
      · rw [if_neg h2]
        by_cases h3 : a2 < 1
        · rw [decide_eq_true h3]; simp only [postbagref01_Field0.j0, if_true, fieldOf]; rw [if_pos (Or.inr (Or.inr h3))]
        · rw [decide_eq_false h3]
          simp only [postbagref01_Field0.j0]
          obtain ⟨X, rfl, hX⟩ := hu.nat
          obtain ⟨L, rfl⟩ : ∃ L : Nat, a1 = L := ⟨a1.toNat, by omega⟩
          obtain ⟨M, rfl⟩ : ∃ M : Nat, a2 = M := ⟨a2.toNat, by omega⟩
          have h := postbagref01_Field.loop X L M hX (by omega) (min M (64 - L)) 132 0 (by omega) (by omega)
          rw [if_neg (by decide), field_nat X L M (by omega) (by omega)]
          rw [Nat.pow_zero, Nat.mod_one] at h
          exact h
  · rw [if_neg hu] at h; exact absurd h (by simp)


theorem postbagref01_Field.calls (a0 : Int) (a1 : Int) (a2 : Int) (r : Int) (w : World) (h : postbagref01_Field.f a0 a1 a2 = some r) :
    Calls Try.prog 50 #[.int .u64 a0, .int .i64 a1, .int .i64 a2] w fun e w' => e = .returned (.int .u64 r) ∧ Drawn0 w w' := by
  obtain ⟨k, hk⟩ := postbagref01_Field.spec a0 a1 a2 r h
  exact postbagref01_Field0.calls k a0 a1 a2 r w hk

/-! ### postbagref02_part0: function 35 -/
def postbagref02_part0.f (a0 : Int) (a1 : Int) (a2 : Int) (a3 : Int) : Option (Int) := (postbagref01_Field.f (IntKind.u64.wrap (a0)) a1 a2).bind fun t167 => ((postbagref01_Place.f 0 a3 a2 t167).bind fun t168 => (some t168))
set_option maxHeartbeats 8000000 in
set_option maxRecDepth 100000 in
theorem postbagref02_part0.calls (a0 : Int) (a1 : Int) (a2 : Int) (a3 : Int) (r : Int) (w : World) (h : postbagref02_part0.f a0 a1 a2 a3 = some r) :
    Calls Try.prog 35 #[.int .i64 a0, .int .i64 a1, .int .i64 a2, .int .i64 a3] w fun e w' => e = .returned (.int .u64 r) ∧ Drawn0 w w' := by
  have H : ((postbagref01_Field.f (IntKind.u64.wrap (a0)) a1 a2).bind fun t167 => ((postbagref01_Place.f 0 a3 a2 t167).bind fun t168 => (some t168))) = some r := h
  clear h
  replace H := Option.bind_eq_some_iff.mp H
  obtain ⟨t167, A50, H⟩ := H
  replace H : ((postbagref01_Place.f 0 a3 a2 t167).bind fun t168 => (some t168)) = some r := H
  have A5 := Aside0.mk A50
  clear A50
  replace H := Option.bind_eq_some_iff.mp H
  obtain ⟨t168, A60, H⟩ := H
  replace H : (some t168) = some r := H
  have A6 := Aside0.mk A60
  clear A60
  obtain rfl := Option.some.inj H
  go_enter Try.func35, Try.ntmps35
  go_wp2_with (first | ((with_reducible refine gate_callee (f := 50) rfl ?_); refine goesL_ (some 15) rfl rfl Try.func50 (by kernel_rfl) rfl #[.int .u64 (IntKind.u64.wrap (a0)), .int .i64 a1, .int .i64 a2] rfl (by (try simp only [List.map_toArray, List.map_cons, List.map_nil]); first | done | rfl | (simp only [List.length_drop, List.length_take]; rfl)) ?_; (with_reducible refine (postbagref01_Field.calls (IntKind.u64.wrap (a0)) a1 a2 t167 _ A5.out).mono ?_); rintro e w' ⟨rfl, ⟨nd, rfl⟩⟩; refine ⟨_, rfl, ?_⟩) | ((with_reducible refine gate_callee (f := 49) rfl ?_); refine goesL_ (some 16) rfl rfl Try.func49 (by kernel_rfl) rfl #[.int .u64 0, .int .i64 a3, .int .i64 a2, .int .u64 t167] rfl (by (try simp only [List.map_toArray, List.map_cons, List.map_nil]); first | done | rfl | (simp only [List.length_drop, List.length_take]; rfl)) ?_; (with_reducible refine (postbagref01_Place.calls 0 a3 a2 t167 t168 _ A6.out).mono ?_); rintro e w' ⟨rfl, ⟨nd, rfl⟩⟩; refine ⟨_, rfl, ?_⟩))
  go_ret
  exact ⟨by first | rfl | (simp; done) | (simp [*]; done), by repeat (first | exact Drawn0.refl _ | apply Drawn0.step)⟩
theorem wrap_field (v : Int) (low n : Nat) (hl : low + n ≤ 64) : IntKind.u64.wrap v / 2 ^ low % 2 ^ n = v / 2 ^ low % 2 ^ n := by
  have hs : (18446744073709551616 : Int) = 2 ^ low * (2 ^ n * 2 ^ (64 - low - n)) := by
    rw [← Int.pow_add, ← Int.pow_add, show low + (n + (64 - low - n)) = 64 by omega]; rfl
  have hd := Int.emod_add_mul_ediv v (2 ^ low * (2 ^ n * 2 ^ (64 - low - n)))
  rw [u64w, hs]
  generalize v % (2 ^ low * (2 ^ n * 2 ^ (64 - low - n))) = r at *
  generalize v / (2 ^ low * (2 ^ n * 2 ^ (64 - low - n))) = q at *
  rw [← hd, Int.mul_assoc, Int.add_mul_ediv_left _ _ (Int.ne_of_gt (ipos low)), Int.mul_assoc, Int.add_mul_emod_self_left]
theorem place_null (v : Int) (k n : Nat) (hv : 0 ≤ v ∧ v < 2 ^ n) (hk : k + n ≤ 64) (h1 : 1 ≤ n) : placeOf 0 k n v = v * 2 ^ k := by
  obtain ⟨x, rfl⟩ := Int.eq_ofNat_of_zero_le hv.1
  have hx : x < 2 ^ n := by have := hv.2; rw [ipow] at this; omega
  have h := place_nat 0 k n x (by omega) h1
  rw [show ((0 : Nat) : Int) = 0 from rfl] at h
  rw [h, show min n (64 - k) = n by omega, place, Nat.mod_eq_of_lt hx]
  simp [Int.mul_comm]
def postbagref02_part.f (a0 : Int) (a1 : Int) (a2 : Int) (a3 : Int) : Option (Int) := if 0 ≤ a1 ∧ 1 ≤ a2 ∧ 0 ≤ a3 ∧ a1 + a2 ≤ 64 ∧ a3 + a2 ≤ 64 then some (a0 / 2 ^ a1.toNat % 2 ^ a2.toNat * 2 ^ a3.toNat) else none
theorem postbagref02_part.spec (a0 a1 a2 a3 r : Int) (h : postbagref02_part.f a0 a1 a2 a3 = some r) : postbagref02_part0.f a0 a1 a2 a3 = some r := by
  unfold postbagref02_part.f at h
  split at h
  · rename_i hc
    obtain rfl := Option.some.inj h
    obtain ⟨low, rfl⟩ := Int.eq_ofNat_of_zero_le hc.1
    obtain ⟨n, rfl⟩ := Int.eq_ofNat_of_zero_le (show 0 ≤ a2 by omega)
    obtain ⟨k, rfl⟩ := Int.eq_ofNat_of_zero_le hc.2.2.1
    unfold postbagref02_part0.f postbagref01_Field.f postbagref01_Place.f
    rw [if_pos (U64.wrap _)]
    simp only [Option.bind_some]
    rw [field_lit _ low n (by omega) (by omega) (by omega), wrap_field a0 low n (by omega)]
    have p1 := ipos n
    have b0 : 0 ≤ a0 / 2 ^ low % 2 ^ n := Int.emod_nonneg _ (Int.ne_of_gt p1)
    have b1 : a0 / 2 ^ low % 2 ^ n < 2 ^ n := Int.emod_lt_of_pos _ p1
    have b2 := ipow_le n 64 (by omega)
    rw [if_pos ⟨by unfold U64; omega, by unfold U64; omega⟩, place_null _ k n ⟨b0, b1⟩ (by omega) (by omega)]
    simp
  · simp at h

theorem postbagref02_part.calls (a0 : Int) (a1 : Int) (a2 : Int) (a3 : Int) (r : Int) (w : World) (h : postbagref02_part.f a0 a1 a2 a3 = some r) :
    Calls Try.prog 35 #[.int .i64 a0, .int .i64 a1, .int .i64 a2, .int .i64 a3] w fun e w' => e = .returned (.int .u64 r) ∧ Drawn0 w w' := by
  have hk := postbagref02_part.spec a0 a1 a2 a3 r h
  exact postbagref02_part0.calls a0 a1 a2 a3 r w hk

/-! ### postbagref02_flag0: function 36 -/
def postbagref02_flag0.f (a0 : Bool) (a1 : Int) : Option (Int) := if a0 = true then ((postbagref02_part.f 1 0 1 a1).bind fun t169 => (some t169)) else (some 0)
set_option maxHeartbeats 8000000 in
set_option maxRecDepth 100000 in
theorem postbagref02_flag0.calls (a0 : Bool) (a1 : Int) (r : Int) (w : World) (h : postbagref02_flag0.f a0 a1 = some r) :
    Calls Try.prog 36 #[.bool a0, .int .i64 a1] w fun e w' => e = .returned (.int .u64 r) ∧ Drawn0 w w' := by
  have H : (if a0 = true then ((postbagref02_part.f 1 0 1 a1).bind fun t169 => (some t169)) else (some 0)) = some r := h
  clear h
  by_cases c3 : a0 = true
  · subst c3
    have H1 : ((postbagref02_part.f 1 0 1 a1).bind fun t169 => (some t169)) = some r := by rw [if_pos rfl] at H; exact H
    clear H
    have H := H1
    clear H1
    replace H := Option.bind_eq_some_iff.mp H
    obtain ⟨t169, A40, H⟩ := H
    replace H : (some t169) = some r := H
    have A4 := Aside0.mk A40
    clear A40
    obtain rfl := Option.some.inj H
    go_enter Try.func36, Try.ntmps36
    go_wp2_with (first | ((with_reducible refine gate_callee (f := 35) rfl ?_); refine goesL_ (some 7) rfl rfl Try.func35 (by kernel_rfl) rfl #[.int .i64 1, .int .i64 0, .int .i64 1, .int .i64 a1] rfl (by (try simp only [List.map_toArray, List.map_cons, List.map_nil]); first | done | rfl | (simp only [List.length_drop, List.length_take]; rfl)) ?_; (with_reducible refine (postbagref02_part.calls 1 0 1 a1 t169 _ A4.out).mono ?_); rintro e w' ⟨rfl, ⟨nd, rfl⟩⟩; refine ⟨_, rfl, ?_⟩))
    go_ret
    exact ⟨by first | rfl | (simp; done) | (simp [*]; done), by repeat (first | exact Drawn0.refl _ | apply Drawn0.step)⟩
  · replace c3 := Bool.eq_false_iff.mpr c3
    subst c3
    have H1 : (some 0) = some r := by rw [if_neg (show ¬ (false = true) by decide)] at H; exact H
    clear H
    have H := H1
    clear H1
    obtain rfl := Option.some.inj H
    go_enter Try.func36, Try.ntmps36
    go_wp2
    go_ret
    exact ⟨by first | rfl | (simp; done) | (simp [*]; done), by repeat (first | exact Drawn0.refl _ | apply Drawn0.step)⟩
def postbagref02_flag.f (a0 : Bool) (a1 : Int) : Option (Int) := if 0 ≤ a1 ∧ a1 ≤ 63 then some (if a0 then 2 ^ a1.toNat else 0) else none
theorem postbagref02_flag.spec (a0 : Bool) (a1 r : Int) (h : postbagref02_flag.f a0 a1 = some r) : postbagref02_flag0.f a0 a1 = some r := by
  unfold postbagref02_flag.f at h
  split at h
  · rename_i hc
    obtain rfl := Option.some.inj h
    unfold postbagref02_flag0.f postbagref02_part.f
    have hc' : 0 ≤ (0 : Int) ∧ (1 : Int) ≤ 1 ∧ 0 ≤ a1 ∧ (0 : Int) + 1 ≤ 64 ∧ a1 + 1 ≤ 64 := ⟨by omega, by omega, by omega, by omega, by omega⟩
    rw [if_pos hc']
    cases a0 <;> simp
  · simp at h

theorem postbagref02_flag.calls (a0 : Bool) (a1 : Int) (r : Int) (w : World) (h : postbagref02_flag.f a0 a1 = some r) :
    Calls Try.prog 36 #[.bool a0, .int .i64 a1] w fun e w' => e = .returned (.int .u64 r) ∧ Drawn0 w w' := by
  have hk := postbagref02_flag.spec a0 a1 r h
  exact postbagref02_flag0.calls a0 a1 r w hk

/-! ### postbagref02_Encode: function 11 -/
def partOf (v low n k : Int) : Int := v / 2 ^ low.toNat % 2 ^ n.toNat * 2 ^ k.toNat
def flagOf (b : Bool) (k : Int) : Int := if b then 2 ^ k.toNat else 0
theorem part.c (v low n k : Int) (W : World) (h : 0 ≤ low ∧ 1 ≤ n ∧ 0 ≤ k ∧ low + n ≤ 64 ∧ k + n ≤ 64) : Calls Try.prog 35 #[.int .i64 v, .int .i64 low, .int .i64 n, .int .i64 k] W fun e w' => e = .returned (.int .u64 (partOf v low n k)) ∧ Drawn0 W w' :=
  postbagref02_part.calls v low n k _ W (by unfold postbagref02_part.f; rw [if_pos h]; rfl)
theorem flag.c (b : Bool) (k : Int) (W : World) (h : 0 ≤ k ∧ k ≤ 63) : Calls Try.prog 36 #[.bool b, .int .i64 k] W fun e w' => e = .returned (.int .u64 (flagOf b k)) ∧ Drawn0 W w' :=
  postbagref02_flag.calls b k _ W (by unfold postbagref02_flag.f; rw [if_pos h]; rfl)
theorem in_draw {P : Program} {f : FuncId} {args : Array Value} {w : World} {v : Value} {n : Nat} (h : ∀ W, Calls P f args W fun e w' => e = .returned v ∧ Drawn0 W w') : Calls P f args (w.drewN n) fun e w'' => e = .returned v ∧ ∃ m, w'' = w.drewN m :=
  (h _).mono fun _ _ ⟨he, ⟨m, hm⟩⟩ => ⟨he, n + m, by rw [hm, World.drewN_drewN]⟩
theorem enc_range (op rd rs1 rs2 imm : Int) (aq rl : Bool) (hg : goodOf op rd rs1 rs2 imm aq rl = true) : 0 ≤ encOf op rd rs1 rs2 imm aq rl ∧ encOf op rd rs1 rs2 imm aq rl < 4294967296 := by
  have G := goodI hg
  obtain ⟨n1, n2, n3, n4, n5, n6, n7, n8⟩ := nums_range op
  have b1 := G.rd0
  have b2 := G.rd1
  have b3 := G.rs10
  have b4 := G.rs11
  have b5 := G.rs20
  have b6 := G.rs21
  have bA := G.aqh
  have d1 := G.rdh
  have d2 := G.rs1h
  have d3 := G.rs2h
  have hc := form_cases op
  clear G hg
  unfold encOf
  generalize codeOf op = c at *
  generalize f3Of op = x3 at *
  generalize f7Of op = x7 at *
  generalize formOf op = f at *
  rcases hc with rfl | rfl | rfl | rfl | rfl | rfl | rfl | rfl | rfl | rfl | rfl | rfl | rfl
  all_goals (try (have hz := bA; simp [hasAq] at hz; obtain ⟨hz1, hz2⟩ := hz; subst hz1 hz2))
  all_goals (try (have hz := d1; simp [hasRd] at hz; subst hz))
  all_goals (try (have hz := d2; simp [hasRs1] at hz; subst hz))
  all_goals (try (have hz := d3; simp [hasRs2] at hz; subst hz))
  all_goals simp [highOf, immWord]
  all_goals (try (cases aq <;> cases rl <;> simp))
  all_goals omega
theorem ret_pair {a b : Int} (h : a = b) : Ending.returned (.tuple #[.int .u32 a, .int .i64 0]) = .returned (.tuple #[.int .u32 b, .int .i64 0]) := by rw [h]
set_option maxHeartbeats 4000000 in
theorem postbagref02_Encode.w (a0_0 a0_1 a0_2 a0_3 a0_4 f c x3 x7 : Int) (a0_5 a0_6 : Bool) (w : World)
    (hG : Hid (∀ W, Calls Try.prog 13 #[.agg #[.int .i64 a0_0, .int .i64 a0_1, .int .i64 a0_2, .int .i64 a0_3, .int .i64 a0_4, .bool a0_5, .bool a0_6]] W fun e w' => e = .returned (.bool true) ∧ Below W.heap.size W w'))
    (hO : Hid (∀ W, Calls Try.prog 34 #[.int .i64 a0_0] W fun e w' => e = .returned (.agg #[.int .i64 f, .int .i64 c, .int .i64 x3, .int .i64 x7]) ∧ Below W.heap.size W w'))
    (hc : f = 1 ∨ f = 2 ∨ f = 3 ∨ f = 4 ∨ f = 5 ∨ f = 6 ∨ f = 7 ∨ f = 8 ∨ f = 9 ∨ f = 10 ∨ f = 11 ∨ f = 12)
    (R : Int) (hR : Hid (c + partOf x3 0 3 12 + partOf a0_1 0 5 7 + partOf a0_2 0 5 15 + partOf a0_3 0 5 20 + highOf f x7 + immWord f a0_4 + (if hasAq f then flagOf a0_5 26 + flagOf a0_6 25 else 0) = R ∧ 0 ≤ R ∧ R < 4294967296))
    (h7 : Hid (0 ≤ x7 ∧ x7 < 64 ∧ (f = 11 ∨ f = 12 → x7 < 32))) (hi7 : Hid (f = 7 → 0 ≤ a0_4 ∧ a0_4 < 32)) :
    Calls Try.prog 11 #[.agg #[.int .i64 a0_0, .int .i64 a0_1, .int .i64 a0_2, .int .i64 a0_3, .int .i64 a0_4, .bool a0_5, .bool a0_6]] w fun e w' => e = .returned (.tuple #[.int .u32 R, .int .i64 0]) ∧ Below w.heap.size w w' := by
  rcases hc with rfl | rfl | rfl | rfl | rfl | rfl | rfl | rfl | rfl | rfl | rfl | rfl
  all_goals (
    go_enter Try.func11, Try.ntmps11
    go_wp2_with fail
    refine (hG.out _).mono ?_
    rintro e w1 ⟨rfl, hb⟩
    have B1 := (Blk.new w _ _).below hb
    have hb := Lib.hid ((((Below.refl w.heap.size w).alloc (Nat.le_refl _) _).trans (hb.mono (by simp))))
    have c1 := B1.cell
    go_wp2_with fail
    refine (hO.out _).mono ?_
    rintro e w2 ⟨rfl, hb2⟩
    replace B1 := B1.below hb2
    replace hb := Lib.hid (hb.out.trans (hb2.mono hb.out.size))
    clear hb2 c1
    have c1 := B1.cell
    have l1 := B1.lt
    go_wp2_with fail
    generalize hX : World.alloc w2 _ = X
    have K1 := B1.alloc_eq hX
    have K2 := Blk.new_eq hX
    have HX := Lib.hid (below_alloc_eq hb.out hb.out.size hX)
    clear hX c1 l1 B1 hb
    have k1 := K1.cell
    have k2 := K2.cell
    have K1 := Lib.hid K1
    have K2 := Lib.hid K2
    go_wp2_with fail
    refine wp_region_quiet_lit (by kernel_rfl) (by kernel_rfl) ?_
    repeat (first | go_big_quiet_step ((go_at_call 35; exact in_draw (fun W => part.c _ _ _ _ W (by omega)))) | quiet_step ((go_at_call 35; exact in_draw (fun W => part.c _ _ _ _ W (by omega)))))
    refine wpQuiet_nil ?_
    intro _ hw'
    obtain ⟨nq, hw''⟩ := hw'
    subst hw''
    generalize hZ : World.drewN X nq = Z
    have L1 := hZ ▸ K1.out.drewN (n := nq)
    have L2 := hZ ▸ K2.out.drewN (n := nq)
    have HZ := Lib.hid (hZ ▸ below_drewN HX.out nq)
    clear hZ k1 k2 K1 K2 HX
    have k1 := L1.cell
    have k2 := L2.cell
    have L1 := Lib.hid L1
    have L2 := Lib.hid L2
    go_wp2_with (first | (go_at_call 35; refine (part.c _ _ _ _ _ (by omega)).mono ?_; rintro e w3 ⟨rfl, ⟨nd, rfl⟩⟩)))
  all_goals (try (
    refine wp_region_quiet_lit (by kernel_rfl) (by kernel_rfl) ?_
    repeat (first | go_big_quiet_step ((first | (go_at_call 35; exact in_draw (fun W => part.c _ _ _ _ W (by omega))) | (go_at_call 36; exact in_draw (fun W => flag.c _ _ W (by omega))))) | quiet_step ((first | (go_at_call 35; exact in_draw (fun W => part.c _ _ _ _ W (by omega))) | (go_at_call 36; exact in_draw (fun W => flag.c _ _ W (by omega))))))
    refine wpQuiet_nil ?_
    intro _ hw'
    obtain ⟨nq2, hw''⟩ := hw'
    subst hw''
    go_wp2))
  all_goals go_ret2
  all_goals (
    refine ⟨ret_pair ?_, by repeat (first | exact HZ.out | apply below_drewN)⟩
    obtain ⟨hR, r1, r2⟩ := hR.out
    have g7 := h7.out
    have gi := hi7.out
    clear hG hO HZ k1 k2 L1 L2
    simp [highOf, immWord, hasAq] at hR
    have wa : ∀ x y : Int, IntKind.u64.wrap (IntKind.u64.wrap x + y) = IntKind.u64.wrap (x + y) := by intro x y; rw [u64w, u64w, u64w]; omega
    try simp only [wa]
    subst hR
    simp [partOf, flagOf, u64w] at *
    try omega)
set_option maxHeartbeats 1000000 in
theorem postbagref02_Encode.n (a0_0 a0_1 a0_2 a0_3 a0_4 : Int) (a0_5 a0_6 : Bool) (w : World)
    (hG : Hid (∀ W, Calls Try.prog 13 #[.agg #[.int .i64 a0_0, .int .i64 a0_1, .int .i64 a0_2, .int .i64 a0_3, .int .i64 a0_4, .bool a0_5, .bool a0_6]] W fun e w' => e = .returned (.bool false) ∧ Below W.heap.size W w')) :
    Calls Try.prog 11 #[.agg #[.int .i64 a0_0, .int .i64 a0_1, .int .i64 a0_2, .int .i64 a0_3, .int .i64 a0_4, .bool a0_5, .bool a0_6]] w fun e w' => e = .returned (.tuple #[.int .u32 0, .int .i64 20]) ∧ Below w.heap.size w w' := by
  go_enter Try.func11, Try.ntmps11
  go_wp2_with fail
  refine (hG.out _).mono ?_
  rintro e w1 ⟨rfl, hb⟩
  have hb := Lib.hid ((((Below.refl w.heap.size w).alloc (Nat.le_refl _) _).trans (hb.mono (by simp))))
  go_wp2_with fail
  go_ret2
  exact ⟨rfl, hb.out⟩
def postbagref02_Encode.f (a0_0 : Int) (a0_1 : Int) (a0_2 : Int) (a0_3 : Int) (a0_4 : Int) (a0_5 : Bool) (a0_6 : Bool) : Option (Int × Int) := if I64 a0_4 then (if goodOf a0_0 a0_1 a0_2 a0_3 a0_4 a0_5 a0_6 = true then some (encOf a0_0 a0_1 a0_2 a0_3 a0_4 a0_5 a0_6, 0) else some (0, 20)) else none
theorem postbagref02_Encode.calls (a0_0 : Int) (a0_1 : Int) (a0_2 : Int) (a0_3 : Int) (a0_4 : Int) (a0_5 : Bool) (a0_6 : Bool) (r1 : Int) (r2 : Int) (w : World) (h : postbagref02_Encode.f a0_0 a0_1 a0_2 a0_3 a0_4 a0_5 a0_6 = some (r1, r2)) :
    Calls Try.prog 11 #[.agg #[.int .i64 a0_0, .int .i64 a0_1, .int .i64 a0_2, .int .i64 a0_3, .int .i64 a0_4, .bool a0_5, .bool a0_6]] w fun e w' => e = .returned (.tuple #[.int .u32 r1, .int .i64 r2]) ∧ Below w.heap.size w w' := by
  unfold postbagref02_Encode.f at h
  by_cases hI : I64 a0_4
  case neg => rw [if_neg hI] at h; simp at h
  rw [if_pos hI] at h
  have gc := fun b hb => Lib.hid (fun W => postbagref02_Good.calls a0_0 a0_1 a0_2 a0_3 a0_4 a0_5 a0_6 b W (by unfold postbagref02_Good.f; rw [if_pos hI]; exact congrArg some hb))
  by_cases hg : goodOf a0_0 a0_1 a0_2 a0_3 a0_4 a0_5 a0_6 = true
  · rw [if_pos hg] at h
    simp only [Option.some.injEq, Prod.mk.injEq] at h
    obtain ⟨rfl, rfl⟩ := h
    have G := goodI hg
    have hp : 0 < formOf a0_0 := by
      have h := hg
      simp only [goodOf, Bool.and_eq_true, decide_eq_true_eq] at h
      exact h.1
    obtain ⟨n1, n2, n3, n4, n5, n6, n7, n8⟩ := nums_range a0_0
    have b1 := G.rd0
    have b2 := G.rd1
    have b3 := G.rs10
    have b4 := G.rs11
    have b5 := G.rs20
    have b6 := G.rs21
    have S := enc_range a0_0 a0_1 a0_2 a0_3 a0_4 a0_5 a0_6 hg
    refine postbagref02_Encode.w a0_0 a0_1 a0_2 a0_3 a0_4 (formOf a0_0) (codeOf a0_0) (f3Of a0_0) (f7Of a0_0) a0_5 a0_6 w (gc true hg) (fun W => postbagref02_Row.c a0_0 W) (by have := form_cases a0_0; omega) _ ⟨?_, S.1, S.2⟩ ⟨n4.1, n4.2, n5⟩ ?_
    · have m1 : partOf (f3Of a0_0) 0 3 12 = f3Of a0_0 * 4096 := by simp [partOf]; omega
      have m2 : partOf a0_1 0 5 7 = a0_1 * 128 := by simp [partOf]; omega
      have m3 : partOf a0_2 0 5 15 = a0_2 * 32768 := by simp [partOf]; omega
      have m4 : partOf a0_3 0 5 20 = a0_3 * 1048576 := by simp [partOf]; omega
      rw [m1, m2, m3, m4]
      unfold encOf
      cases hA : hasAq (formOf a0_0)
      · obtain ⟨rfl, rfl⟩ := G.aqh hA
        simp
      · cases a0_5 <;> cases a0_6 <;> simp [flagOf] <;> omega
    · intro h7
      have hi := G.immh
      rw [h7] at hi
      simp [immOf] at hi
      omega
  · have hg' : goodOf a0_0 a0_1 a0_2 a0_3 a0_4 a0_5 a0_6 = false := by simpa using hg
    rw [if_neg hg] at h
    simp only [Option.some.injEq, Prod.mk.injEq] at h
    obtain ⟨rfl, rfl⟩ := h
    exact postbagref02_Encode.n a0_0 a0_1 a0_2 a0_3 a0_4 a0_5 a0_6 w (gc false hg')


/-! ### inst_Atomic: function 21 -/
def inst_Atomic.f (a0 : Int) : Option (Bool) := if a0 ≥ 66 then (some (decide (a0 ≤ 87))) else (some false)
set_option maxHeartbeats 8000000 in
set_option maxRecDepth 100000 in
theorem inst_Atomic.calls (a0 : Int) (r : Bool) (w : World) (h : inst_Atomic.f a0 = some r) :
    Calls Try.prog 21 #[.int .i64 a0] w fun e w' => e = .returned (.bool r) ∧ Drawn0 w w' := by
  have H : (if a0 ≥ 66 then (some (decide (a0 ≤ 87))) else (some false)) = some r := h
  clear h
  by_cases c2 : a0 ≥ 66
  · rw [if_pos c2] at H
    have c2b0 : decide (66 ≤ a0) = true := decide_eq_true c2
    clear c2
    obtain rfl := Option.some.inj H
    go_enter Try.func21, Try.ntmps21
    go_wp2
    go_ret
    exact ⟨by first | rfl | (simp; done) | (simp [*]; done), by repeat (first | exact Drawn0.refl _ | apply Drawn0.step)⟩
  · rw [if_neg c2] at H
    have c2b0 : decide (66 ≤ a0) = false := decide_eq_false c2
    clear c2
    obtain rfl := Option.some.inj H
    go_enter Try.func21, Try.ntmps21
    go_wp2
    go_ret
    exact ⟨by first | rfl | (simp; done) | (simp [*]; done), by repeat (first | exact Drawn0.refl _ | apply Drawn0.step)⟩

/-! ### inst_near: function 44 -/
def inst_near.f (a0 : Int) (a1 : Int) : Option (Bool) := some (nearOf a0 a1)
set_option maxHeartbeats 4000000 in
theorem inst_near.calls (a0 a1 : Int) (r : Bool) (w : World) (h : inst_near.f a0 a1 = some r) : Calls Try.prog 44 #[.int .i64 a0, .int .i64 a1] w fun e w' => e = .returned (.bool r) ∧ Below w.heap.size w w' := by
  obtain rfl := Option.some.inj h
  clear h
  by_cases h1 : a1 = 3 ∨ a1 = 19 ∨ a1 = 51 ∨ a1 = 47
  · go_enter Try.func44, Try.ntmps44
    go_wp2
    all_goals go_ret
    all_goals refine ⟨?_, by go_grown⟩
    all_goals simp only [beq_iff_eq, beq_eq_false_iff_ne, ne_eq] at *
    all_goals (try subst_vars)
    all_goals refine congrArg (fun b => Ending.returned (Value.bool b)) (?_ : _ = _)
    all_goals rw [Bool.eq_iff_iff]
    all_goals simp [nearOf]
    all_goals omega
  · have hfd : ∀ (W : World) (x0 x1 x2 x3 : Int), (Instr.field 46 (.agg #[.int .i64 x0, .int .i64 x1, .int .i64 x2, .int .i64 x3]) 1).run Try.prog W = .ok (.int .i64 x1) W := fun _ _ _ _ _ => by kernel_rfl
    have k1 : (a1 == 3) = false := by simp; omega
    have k2 : (a1 == 19) = false := by simp; omega
    have k3 : (a1 == 51) = false := by simp; omega
    have k4 : (a1 == 47) = false := by simp; omega
    go_enter Try.func44, Try.ntmps44
    go_wp2_with fail
    refine (inst_of.calls a0 _ _ _ _ _ rfl).mono ?_
    rintro e w1 ⟨rfl, hb⟩
    have hb := Lib.hid hb
    go_wp2_with fail
    go_returns
    refine ⟨?_, hb.out⟩
    simp only [nearOf, if_neg (show ¬ a1 = 3 by omega), if_neg (show ¬ a1 = 19 by omega), if_neg (show ¬ a1 = 51 by omega), if_neg (show ¬ a1 = 47 by omega)]
    rfl


/-! ### bits_Field0: function 54 -/
def bits_Field0.f (a0 : Int) (a1 : Int) (a2 : Int) : Option (Int) := (bits_is.f a1 a2).bind fun t170 => (if t170 = true then (if 0 ≤ a1 then ((bits_mask.f a2).bind fun t171 => (some (Go.bits .and .u64 (shr .u64 a0 a1) t171))) else (none)) else (some 0))
set_option maxHeartbeats 8000000 in
set_option maxRecDepth 100000 in
theorem bits_Field0.calls (a0 : Int) (a1 : Int) (a2 : Int) (r : Int) (w : World) (h : bits_Field0.f a0 a1 a2 = some r) :
    Calls Try.prog 54 #[.int .u64 a0, .int .i64 a1, .int .i64 a2] w fun e w' => e = .returned (.int .u64 r) ∧ Drawn0 w w' := by
  have H : ((bits_is.f a1 a2).bind fun t170 => (if t170 = true then (if 0 ≤ a1 then ((bits_mask.f a2).bind fun t171 => (some (Go.bits .and .u64 (shr .u64 a0 a1) t171))) else (none)) else (some 0))) = some r := h
  clear h
  replace H := Option.bind_eq_some_iff.mp H
  obtain ⟨t170, A40, H⟩ := H
  replace H : (if t170 = true then (if 0 ≤ a1 then ((bits_mask.f a2).bind fun t171 => (some (Go.bits .and .u64 (shr .u64 a0 a1) t171))) else (none)) else (some 0)) = some r := H
  have A4 := Aside0.mk A40
  clear A40
  by_cases c5 : t170 = true
  · subst c5
    have H1 : (if 0 ≤ a1 then ((bits_mask.f a2).bind fun t171 => (some (Go.bits .and .u64 (shr .u64 a0 a1) t171))) else (none)) = some r := by rw [if_pos rfl] at H; exact H
    clear H
    have H := H1
    clear H1
    by_cases c6 : 0 ≤ a1
    · rw [if_pos c6] at H
      have c6b0 := eq_true c6
      have c6b1 : decide (0 ≤ a1) = true := decide_eq_true c6
      clear c6
      obtain ⟨ji7, hji7⟩ : ∃ j_ : Int, (shr .u64 a0 a1) = j_ := ⟨_, rfl⟩
      replace H : ((bits_mask.f a2).bind fun t171 => (some (Go.bits .and .u64 (ji7) t171))) = some r := by first | (rw [hji7] at H; exact H) | (simp only [hji7] at H ⊢; exact H)
      (try rw [hji7] at A4)
      have hji7_ : (a0 / 2 ^ min a1.toNat 64) = ji7 := hji7
      have hji7z : a1 ≤ 64 → (a0 / 2 ^ a1.toNat) = ji7 := shr_small hji7
      replace H := Option.bind_eq_some_iff.mp H
      obtain ⟨t171, A80, H⟩ := H
      replace H : (some (Go.bits .and .u64 (ji7) t171)) = some r := H
      have A8 := Aside0.mk A80
      clear A80
      obtain rfl := Option.some.inj H
      go_enter Try.func54, Try.ntmps54
      go_wp2_with (first | (go_at_call 47; (with_reducible refine (bits_is.calls a1 a2 true _ A4.out).mono ?_); rintro e w' ⟨rfl, ⟨nd, rfl⟩⟩; (try first | exact ⟨rfl, _, World.drewN_drewN _ _ _⟩ | exact ⟨rfl, _, Eq.trans (World.drewN_drewN _ _ _) (congrArg (World.drewN _) (Nat.add_assoc _ _ _))⟩)) | (go_at_call 48; (with_reducible refine (bits_mask.calls a2 t171 _ A8.out).mono ?_); rintro e w' ⟨rfl, ⟨nd, rfl⟩⟩; (try first | exact ⟨rfl, _, World.drewN_drewN _ _ _⟩ | exact ⟨rfl, _, Eq.trans (World.drewN_drewN _ _ _) (congrArg (World.drewN _) (Nat.add_assoc _ _ _))⟩)))
      repeat (go_quiet (first | (go_at_call 47; (with_reducible refine (bits_is.calls a1 a2 true _ A4.out).mono ?_); rintro e w' ⟨rfl, ⟨nd, rfl⟩⟩; (try first | exact ⟨rfl, _, World.drewN_drewN _ _ _⟩ | exact ⟨rfl, _, Eq.trans (World.drewN_drewN _ _ _) (congrArg (World.drewN _) (Nat.add_assoc _ _ _))⟩)) | (go_at_call 48; (with_reducible refine (bits_mask.calls a2 t171 _ A8.out).mono ?_); rintro e w' ⟨rfl, ⟨nd, rfl⟩⟩; (try first | exact ⟨rfl, _, World.drewN_drewN _ _ _⟩ | exact ⟨rfl, _, Eq.trans (World.drewN_drewN _ _ _) (congrArg (World.drewN _) (Nat.add_assoc _ _ _))⟩))); try go_wp2_with (first | (go_at_call 47; (with_reducible refine (bits_is.calls a1 a2 true _ A4.out).mono ?_); rintro e w' ⟨rfl, ⟨nd, rfl⟩⟩; (try first | exact ⟨rfl, _, World.drewN_drewN _ _ _⟩ | exact ⟨rfl, _, Eq.trans (World.drewN_drewN _ _ _) (congrArg (World.drewN _) (Nat.add_assoc _ _ _))⟩)) | (go_at_call 48; (with_reducible refine (bits_mask.calls a2 t171 _ A8.out).mono ?_); rintro e w' ⟨rfl, ⟨nd, rfl⟩⟩; (try first | exact ⟨rfl, _, World.drewN_drewN _ _ _⟩ | exact ⟨rfl, _, Eq.trans (World.drewN_drewN _ _ _) (congrArg (World.drewN _) (Nat.add_assoc _ _ _))⟩))))
      go_ret
      exact ⟨by first | rfl | (simp; done) | (simp only [← hji7] <;> (first | rfl | simp)) | (simp [*]; done), by repeat (first | exact Drawn0.refl _ | apply Drawn0.step)⟩
    · rw [if_neg c6] at H
      exact absurd H (by simp)
  · replace c5 := Bool.eq_false_iff.mpr c5
    subst c5
    have H1 : (some 0) = some r := by rw [if_neg (show ¬ (false = true) by decide)] at H; exact H
    clear H
    have H := H1
    clear H1
    obtain rfl := Option.some.inj H
    go_enter Try.func54, Try.ntmps54
    go_wp2_with (first | (go_at_call 47; (with_reducible refine (bits_is.calls a1 a2 false _ A4.out).mono ?_); rintro e w' ⟨rfl, ⟨nd, rfl⟩⟩; (try first | exact ⟨rfl, _, World.drewN_drewN _ _ _⟩ | exact ⟨rfl, _, Eq.trans (World.drewN_drewN _ _ _) (congrArg (World.drewN _) (Nat.add_assoc _ _ _))⟩)))
    repeat (go_quiet (first | (go_at_call 47; (with_reducible refine (bits_is.calls a1 a2 false _ A4.out).mono ?_); rintro e w' ⟨rfl, ⟨nd, rfl⟩⟩; (try first | exact ⟨rfl, _, World.drewN_drewN _ _ _⟩ | exact ⟨rfl, _, Eq.trans (World.drewN_drewN _ _ _) (congrArg (World.drewN _) (Nat.add_assoc _ _ _))⟩))); try go_wp2_with (first | (go_at_call 47; (with_reducible refine (bits_is.calls a1 a2 false _ A4.out).mono ?_); rintro e w' ⟨rfl, ⟨nd, rfl⟩⟩; (try first | exact ⟨rfl, _, World.drewN_drewN _ _ _⟩ | exact ⟨rfl, _, Eq.trans (World.drewN_drewN _ _ _) (congrArg (World.drewN _) (Nat.add_assoc _ _ _))⟩))))
    go_ret
    exact ⟨by first | rfl | (simp; done) | (simp [*]; done), by repeat (first | exact Drawn0.refl _ | apply Drawn0.step)⟩
def bits_Field.f (a0 : Int) (a1 : Int) (a2 : Int) : Option (Int) := if U64 a0 then some (fieldOf a0 a1 a2) else none
theorem bits_Field.spec (a0 a1 a2 r : Int) (h : bits_Field.f a0 a1 a2 = some r) : bits_Field0.f a0 a1 a2 = some r := by
  unfold bits_Field.f at h
  by_cases hu : U64 a0
  · rw [if_pos hu] at h
    obtain rfl := Option.some.inj h
    unfold bits_Field0.f bits_is.f
    by_cases h1 : a1 ≥ 0
    · rw [if_pos h1]
      by_cases h2 : a1 < 64
      · rw [if_pos h2]
        simp only [Option.bind_some]
        by_cases h3 : a2 ≥ 1
        · rw [decide_eq_true h3, if_pos rfl, if_pos h1, bits_mask.f, if_pos h3]
          simp only [Option.bind_some]
          unfold fieldOf
          rw [if_neg (by omega)]
          have e : shr .u64 a0 a1 = a0 / 2 ^ a1.toNat := by
            unfold shr; rw [Nat.min_eq_left (show a1.toNat ≤ IntKind.u64.bits by show _ ≤ 64; omega)]
          have hr : U64 (a0 / 2 ^ a1.toNat) := ⟨Int.ediv_nonneg hu.1 (Int.le_of_lt (ipos _)), Int.le_trans (Int.ediv_le_self _ hu.1) hu.2⟩
          rw [e, and_mask _ hr _ (by omega)]
        · rw [decide_eq_false h3, if_neg (by decide), fieldOf, if_pos (Or.inr (Or.inr (by omega)))]
      · rw [if_neg h2]; simp only [Option.bind_some]
        rw [if_neg (by decide), fieldOf, if_pos (Or.inr (Or.inl (by omega)))]
    · rw [if_neg h1]; simp only [Option.bind_some]
      rw [if_neg (by decide), fieldOf, if_pos (Or.inl (by omega))]
  · rw [if_neg hu] at h; exact absurd h (by simp)
theorem bits_Field.eq {a0 : Int} (h : U64 a0) (a1 a2 : Int) : bits_Field.f a0 a1 a2 = some (fieldOf a0 a1 a2) := if_pos h


theorem bits_Field.calls (a0 : Int) (a1 : Int) (a2 : Int) (r : Int) (w : World) (h : bits_Field.f a0 a1 a2 = some r) :
    Calls Try.prog 54 #[.int .u64 a0, .int .i64 a1, .int .i64 a2] w fun e w' => e = .returned (.int .u64 r) ∧ Drawn0 w w' := by
  have hk := bits_Field.spec a0 a1 a2 r h
  exact bits_Field0.calls a0 a1 a2 r w hk

-- NOT PRINTED: function 53 (inst_as_1)

end Go.Proofs.Yteidfegohdilbaa.PAll
