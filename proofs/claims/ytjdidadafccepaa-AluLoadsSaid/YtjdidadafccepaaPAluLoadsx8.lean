/- DERIVED. The contracts of the Go functions that one law reaches: each call returns what the plain function beside it says, under that theorem's own premises. Written by a program (hp.py) over the kit's printed words. -/
import Derived.Test.YtjdidadafccepaaPAluLoadsx0
import Derived.Test.YtjdidadafccepaaPAluLoadsx2
import Derived.Test.YtjdidadafccepaaPAluLoadsx4
import Derived.Test.YtjdidadafccepaaPAluLoadsx6
import Derived.Test.YtjdidadafccepaaPAluLoadsx7
namespace Go.Proofs.Ytjdidadafccepaa.PAluLoads
open Go.RowKit Go.Proofs.YtjdidadafccepaaW.PrintWords Go.Proofs.YtjdidadafccepaaW.PrintLast Go.Proofs.YtjdidadafccepaaW.PrintMore Go.Proofs.Ytjdidadafccepaa.M
attribute [local go_sem] max2_int min2_int max_two min_two max_three min_three max_four min_four   -- for this text's walks alone
set_option linter.unusedVariables false
set_option linter.unusedSimpArgs false

/-! ### inst_Loads0: function 45 -/
def inst_Loads0.f (a0 : Int) : Option (Bool) := if a0 ≥ 11 then (if a0 ≤ 17 then (some true) else ((inst_Atomic.f a0).bind fun t155 => (if t155 = true then (if a0 = 67 then (some false) else (some (a0 != 78))) else (some false)))) else ((inst_Atomic.f a0).bind fun t156 => (if t156 = true then (if a0 = 67 then (some false) else (some (a0 != 78))) else (some false)))
set_option maxHeartbeats 8000000 in
set_option maxRecDepth 100000 in
theorem inst_Loads0.calls (a0 : Int) (r : Bool) (w : World) (h : inst_Loads0.f a0 = some r) :
    Calls Try.prog 45 #[.int .i64 a0] w fun e w' => e = .returned (.bool r) ∧ Drawn0 w w' := by
  have H : (if a0 ≥ 11 then (if a0 ≤ 17 then (some true) else ((inst_Atomic.f a0).bind fun t155 => (if t155 = true then (if a0 = 67 then (some false) else (some (a0 != 78))) else (some false)))) else ((inst_Atomic.f a0).bind fun t156 => (if t156 = true then (if a0 = 67 then (some false) else (some (a0 != 78))) else (some false)))) = some r := h
  clear h
  by_cases c2 : a0 ≥ 11
  · rw [if_pos c2] at H
    have c2b0 : decide (11 ≤ a0) = true := decide_eq_true c2
    clear c2
    by_cases c3 : a0 ≤ 17
    · rw [if_pos c3] at H
      have c3b0 : decide (a0 ≤ 17) = true := decide_eq_true c3
      clear c3
      obtain rfl := Option.some.inj H
      go_enter Try.func45, Try.ntmps45
      go_wp2
      go_ret
      exact ⟨by first | rfl | (simp; done) | (simp [*]; done), by repeat (first | exact Drawn0.refl _ | apply Drawn0.step)⟩
    · rw [if_neg c3] at H
      have c3b0 : decide (a0 ≤ 17) = false := decide_eq_false c3
      clear c3
      replace H := Option.bind_eq_some_iff.mp H
      obtain ⟨t155, A40, H⟩ := H
      replace H : (if t155 = true then (if a0 = 67 then (some false) else (some (a0 != 78))) else (some false)) = some r := H
      have A4 := Aside0.mk A40
      clear A40
      by_cases c5 : t155 = true
      · subst c5
        have H1 : (if a0 = 67 then (some false) else (some (a0 != 78))) = some r := by rw [if_pos rfl] at H; exact H
        clear H
        have H := H1
        clear H1
        by_cases c6 : a0 = 67
        · rw [if_pos c6] at H
          have c6b0 : (a0 == 67) = true := beq_iff_eq.mpr c6
          have c6b1 : (a0 != 67) = false := bne_eq_false_iff_eq.mpr c6
          clear c6
          obtain rfl := Option.some.inj H
          go_enter Try.func45, Try.ntmps45
          go_wp2_with (first | (go_at_call 41; (with_reducible refine (inst_Atomic.calls a0 true _ A4.out).mono ?_); rintro e w' ⟨rfl, ⟨nd, rfl⟩⟩))
          go_ret
          exact ⟨by first | rfl | (simp; done) | (simp [*]; done), by repeat (first | exact Drawn0.refl _ | apply Drawn0.step)⟩
        · rw [if_neg c6] at H
          have c6b0 : (a0 == 67) = false := beq_eq_false_iff_ne.mpr c6
          have c6b1 : (a0 != 67) = true := bne_iff_ne.mpr c6
          obtain rfl := Option.some.inj H
          go_enter Try.func45, Try.ntmps45
          go_wp2_with (first | (go_at_call 41; (with_reducible refine (inst_Atomic.calls a0 true _ A4.out).mono ?_); rintro e w' ⟨rfl, ⟨nd, rfl⟩⟩))
          go_ret
          exact ⟨by first | rfl | (simp; done) | (simp [*]; done), by repeat (first | exact Drawn0.refl _ | apply Drawn0.step)⟩
      · replace c5 := Bool.eq_false_iff.mpr c5
        subst c5
        have H1 : (some false) = some r := by rw [if_neg (show ¬ (false = true) by decide)] at H; exact H
        clear H
        have H := H1
        clear H1
        obtain rfl := Option.some.inj H
        go_enter Try.func45, Try.ntmps45
        go_wp2_with (first | (go_at_call 41; (with_reducible refine (inst_Atomic.calls a0 false _ A4.out).mono ?_); rintro e w' ⟨rfl, ⟨nd, rfl⟩⟩))
        go_ret
        exact ⟨by first | rfl | (simp; done) | (simp [*]; done), by repeat (first | exact Drawn0.refl _ | apply Drawn0.step)⟩
  · rw [if_neg c2] at H
    have c2b0 : decide (11 ≤ a0) = false := decide_eq_false c2
    clear c2
    replace H := Option.bind_eq_some_iff.mp H
    obtain ⟨t156, A70, H⟩ := H
    replace H : (if t156 = true then (if a0 = 67 then (some false) else (some (a0 != 78))) else (some false)) = some r := H
    have A7 := Aside0.mk A70
    clear A70
    by_cases c8 : t156 = true
    · subst c8
      have H1 : (if a0 = 67 then (some false) else (some (a0 != 78))) = some r := by rw [if_pos rfl] at H; exact H
      clear H
      have H := H1
      clear H1
      by_cases c9 : a0 = 67
      · rw [if_pos c9] at H
        have c9b0 : (a0 == 67) = true := beq_iff_eq.mpr c9
        have c9b1 : (a0 != 67) = false := bne_eq_false_iff_eq.mpr c9
        clear c9
        obtain rfl := Option.some.inj H
        go_enter Try.func45, Try.ntmps45
        go_wp2_with (first | (go_at_call 41; (with_reducible refine (inst_Atomic.calls a0 true _ A7.out).mono ?_); rintro e w' ⟨rfl, ⟨nd, rfl⟩⟩))
        go_ret
        exact ⟨by first | rfl | (simp; done) | (simp [*]; done), by repeat (first | exact Drawn0.refl _ | apply Drawn0.step)⟩
      · rw [if_neg c9] at H
        have c9b0 : (a0 == 67) = false := beq_eq_false_iff_ne.mpr c9
        have c9b1 : (a0 != 67) = true := bne_iff_ne.mpr c9
        obtain rfl := Option.some.inj H
        go_enter Try.func45, Try.ntmps45
        go_wp2_with (first | (go_at_call 41; (with_reducible refine (inst_Atomic.calls a0 true _ A7.out).mono ?_); rintro e w' ⟨rfl, ⟨nd, rfl⟩⟩))
        go_ret
        exact ⟨by first | rfl | (simp; done) | (simp [*]; done), by repeat (first | exact Drawn0.refl _ | apply Drawn0.step)⟩
    · replace c8 := Bool.eq_false_iff.mpr c8
      subst c8
      have H1 : (some false) = some r := by rw [if_neg (show ¬ (false = true) by decide)] at H; exact H
      clear H
      have H := H1
      clear H1
      obtain rfl := Option.some.inj H
      go_enter Try.func45, Try.ntmps45
      go_wp2_with (first | (go_at_call 41; (with_reducible refine (inst_Atomic.calls a0 false _ A7.out).mono ?_); rintro e w' ⟨rfl, ⟨nd, rfl⟩⟩))
      go_ret
      exact ⟨by first | rfl | (simp; done) | (simp [*]; done), by repeat (first | exact Drawn0.refl _ | apply Drawn0.step)⟩
def inst_Loads.f (a0 : Int) : Option (Bool) := some (loadsB a0)
theorem inst_Loads.spec (a0 : Int) (r : Bool) (h : inst_Loads.f a0 = some r) : inst_Loads0.f a0 = some r := by
  rw [← h]; unfold inst_Loads.f loadsB
  by_cases h1 : 11 ≤ a0 <;> by_cases h2 : a0 ≤ 17 <;> by_cases h3 : 66 ≤ a0 <;> by_cases h4 : a0 ≤ 87 <;> by_cases h5 : a0 = 67 <;> by_cases h6 : a0 = 78 <;> first | omega | (simp [inst_Loads0.f, inst_Atomic.f, atomicB, *]; done) | (subst_vars; decide +kernel)

theorem inst_Loads.calls (a0 : Int) (r : Bool) (w : World) (h : inst_Loads.f a0 = some r) :
    Calls Try.prog 45 #[.int .i64 a0] w fun e w' => e = .returned (.bool r) ∧ Drawn0 w w' := by
  have hk := inst_Loads.spec a0 r h
  exact inst_Loads0.calls a0 r w hk

/-! ### alu_Loaded: function 24 -/
def alu_Loaded.j0 : Nat → Int → Int → Bool → Option (Int)
  | 0, _, _, _ => none
  | k + 1, x1, x5, x13 => if x13 = true then ((bits_Field.f x1 0 x5).bind fun t159 => (some t159)) else ((bits_Sign.f x1 x5).bind fun t160 => (some t160))
def alu_Loaded.f (k : Nat) (a0 : Int) (a1 : Int) : Option (Int) := (inst_Size.f a0).bind fun t157 => ((inst_Loads.f a0).bind fun t158 => (if t158 = true then (if a0 ≥ 15 then (alu_Loaded.j0 k a1 (wrap64 (8 * t157)) (decide (a0 ≤ 17))) else (alu_Loaded.j0 k a1 (wrap64 (8 * t157)) false)) else (some 0)))
theorem alu_Loaded.mono_l : ∀ k, (∀ y0 y1 y2, LeO (alu_Loaded.j0 k y0 y1 y2) (alu_Loaded.j0 (k + 1) y0 y1 y2))
  | 0 => fun _ _ _ r h => by simp [alu_Loaded.j0] at h
  | k + 1 => by
    have ih0 := alu_Loaded.mono_l k
    · intro y0 y1 y2
      unfold alu_Loaded.j0
      repeat' first
      | (with_reducible exact ih0 _ _ _)
      | (with_reducible exact LeO.refl _)
      | (with_reducible exact LeO.none _)
      | (with_reducible refine LeO.ite ?_ ?_)
      | (with_reducible refine LeO.bind ?_ (fun _ => ?_))
      | exact ih0 _ _ _
      | exact LeO.none _
      | refine LeO.ite ?_ ?_
      | refine LeO.bind ?_ (fun _ => ?_)
theorem alu_Loaded.mono : ∀ a0 a1 k, LeO (alu_Loaded.f k a0 a1) (alu_Loaded.f (k + 1) a0 a1) := by
  intro a0 a1 k
  have ih0 := alu_Loaded.mono_l k
  unfold alu_Loaded.f
  repeat' first
      | (with_reducible exact ih0 _ _ _)
      | (with_reducible exact LeO.refl _)
      | (with_reducible exact LeO.none _)
      | (with_reducible refine LeO.ite ?_ ?_)
      | (with_reducible refine LeO.bind ?_ (fun _ => ?_))
      | exact ih0 _ _ _
      | exact LeO.none _
      | refine LeO.ite ?_ ?_
      | refine LeO.bind ?_ (fun _ => ?_)
set_option maxHeartbeats 8000000 in
set_option maxRecDepth 100000 in
theorem alu_Loaded.calls (k : Nat) (a0 : Int) (a1 : Int) (r : Int) (w : World) (h : alu_Loaded.f k a0 a1 = some r) :
    Calls Try.prog 24 #[.int .i64 a0, .int .u64 a1] w fun e w' => e = .returned (.int .u64 r) ∧ Drawn0 w w' := by
  have H : ((inst_Size.f a0).bind fun t157 => ((inst_Loads.f a0).bind fun t158 => (if t158 = true then (if a0 ≥ 15 then (alu_Loaded.j0 k a1 (wrap64 (8 * t157)) (decide (a0 ≤ 17))) else (alu_Loaded.j0 k a1 (wrap64 (8 * t157)) false)) else (some 0)))) = some r := h
  clear h
  replace H := Option.bind_eq_some_iff.mp H
  obtain ⟨t157, A30, H⟩ := H
  replace H : ((inst_Loads.f a0).bind fun t158 => (if t158 = true then (if a0 ≥ 15 then (alu_Loaded.j0 k a1 (wrap64 (8 * t157)) (decide (a0 ≤ 17))) else (alu_Loaded.j0 k a1 (wrap64 (8 * t157)) false)) else (some 0))) = some r := H
  have A3 := Aside0.mk A30
  clear A30
  replace H := Option.bind_eq_some_iff.mp H
  obtain ⟨t158, A40, H⟩ := H
  replace H : (if t158 = true then (if a0 ≥ 15 then (alu_Loaded.j0 k a1 (wrap64 (8 * t157)) (decide (a0 ≤ 17))) else (alu_Loaded.j0 k a1 (wrap64 (8 * t157)) false)) else (some 0)) = some r := H
  have A4 := Aside0.mk A40
  clear A40
  by_cases c5 : t158 = true
  · subst c5
    have H1 : (if a0 ≥ 15 then (alu_Loaded.j0 k a1 (wrap64 (8 * t157)) (decide (a0 ≤ 17))) else (alu_Loaded.j0 k a1 (wrap64 (8 * t157)) false)) = some r := by rw [if_pos rfl] at H; exact H
    clear H
    have H := H1
    clear H1
    have HC6 := Aside0.mk H
    clear H
    go_enter Try.func24, Try.ntmps24
    go_upto_region 4 with (first | ((with_reducible refine gate_callee (f := 44) rfl ?_); refine goesL_ (some 7) rfl rfl Try.func44 (by kernel_rfl) rfl #[.int .i64 a0] rfl (by (try simp only [List.map_toArray, List.map_cons, List.map_nil]); first | done | rfl | (simp only [List.length_drop, List.length_take]; rfl)) ?_; (with_reducible refine (inst_Size.calls a0 t157 _ A3.out).mono ?_); rintro e w' ⟨rfl, ⟨nd, rfl⟩⟩; refine ⟨_, rfl, ?_⟩) | ((with_reducible refine gate_callee (f := 45) rfl ?_); refine goesL_ (some 11) rfl rfl Try.func45 (by kernel_rfl) rfl #[.int .i64 a0] rfl (by (try simp only [List.map_toArray, List.map_cons, List.map_nil]); first | done | rfl | (simp only [List.length_drop, List.length_take]; rfl)) ?_; (with_reducible refine (inst_Loads.calls a0 true _ A4.out).mono ?_); rintro e w' ⟨rfl, ⟨nd, rfl⟩⟩; refine ⟨_, rfl, ?_⟩))
    (try simp only [Act.put, List.setIfInBounds_toArray, List.set_cons_zero, List.set_cons_succ])
    go_cut [13] (fun v13 wc => ∃ (kq : Nat) (x13_5 : Bool), v13 = .bool x13_5 ∧ Aside0 (alu_Loaded.j0 kq a1 (wrap64 (8 * t157)) x13_5 = some r) ∧ Aside0 (kq ≤ k) ∧ Drawn0 w wc)
    case first =>
      have H := HC6.out
      clear HC6
      by_cases c7 : a0 ≥ 15
      · rw [if_pos c7] at H
        have c7b0 : decide (15 ≤ a0) = true := decide_eq_true c7
        clear c7
        (first | rw [c7b0] | (simp only [i64_w, i32_w]; rw [c7b0]) | skip)
        have H' := Aside0.mk H
        clear H
        go_wp2
        go_meet
        case rel => exact ⟨_, (decide (a0 ≤ 17)), (by first | rfl | (simp; done) | (simp [*]; done)), H', ⟨by first | omega | exact Nat.le_refl _⟩, by repeat (first | exact Drawn0.refl _ | apply Drawn0.step)⟩
      · rw [if_neg c7] at H
        have c7b0 : decide (15 ≤ a0) = false := decide_eq_false c7
        clear c7
        (first | rw [c7b0] | (simp only [i64_w, i32_w]; rw [c7b0]) | skip)
        have H' := Aside0.mk H
        clear H
        go_wp2
        go_meet
        case rel => exact ⟨_, (false), (by first | rfl | (simp; done) | (simp [*]; done)), H', ⟨by first | omega | exact Nat.le_refl _⟩, by repeat (first | exact Drawn0.refl _ | apply Drawn0.step)⟩
    case rest =>
      clear HC6
      try clear c2
      try clear p2
      try clear c4
      try clear c5
      try clear p6
      try clear c7
      try clear c7b0
      obtain ⟨kq, x13_5, rfl, HA, HJ5, ⟨mc5, rfl⟩⟩ := hcut
      cases kq with
      | zero => exact absurd HA.out (by simp [alu_Loaded.j0])
      | succ kj5 =>
        have H := HA.out
        clear HA
        simp only [alu_Loaded.j0] at H
        by_cases c8 : x13_5 = true
        · subst c8
          have H1 : ((bits_Field.f a1 0 (wrap64 (8 * t157))).bind fun t159 => (some t159)) = some r := by rw [if_pos rfl] at H; exact H
          clear H
          have H := H1
          clear H1
          replace H := Option.bind_eq_some_iff.mp H
          obtain ⟨t159, A90, H⟩ := H
          replace H : (some t159) = some r := H
          have A9 := Aside0.mk A90
          clear A90
          obtain rfl := Option.some.inj H
          go_wp2_with (first | ((with_reducible refine gate_callee (f := 14) rfl ?_); refine goesL_ (some 22) rfl rfl Try.func14 (by kernel_rfl) rfl #[.int .u64 a1, .int .i64 0, .int .i64 (wrap64 (8 * t157))] rfl (by (try simp only [List.map_toArray, List.map_cons, List.map_nil]); first | done | rfl | (simp only [List.length_drop, List.length_take]; rfl)) ?_; (with_reducible refine (bits_Field.calls a1 0 (wrap64 (8 * t157)) t159 _ A9.out).mono ?_); rintro e w' ⟨rfl, ⟨nd, rfl⟩⟩; refine ⟨_, rfl, ?_⟩))
          go_ret
          exact ⟨by first | rfl | (simp; done) | (simp [*]; done), by repeat (first | exact Drawn0.refl _ | apply Drawn0.step)⟩
        · replace c8 := Bool.eq_false_iff.mpr c8
          subst c8
          have H1 : ((bits_Sign.f a1 (wrap64 (8 * t157))).bind fun t160 => (some t160)) = some r := by rw [if_neg (show ¬ (false = true) by decide)] at H; exact H
          clear H
          have H := H1
          clear H1
          replace H := Option.bind_eq_some_iff.mp H
          obtain ⟨t160, A100, H⟩ := H
          replace H : (some t160) = some r := H
          have A10 := Aside0.mk A100
          clear A100
          obtain rfl := Option.some.inj H
          go_wp2_with (first | ((with_reducible refine gate_callee (f := 16) rfl ?_); refine goesL_ (some 25) rfl rfl Try.func16 (by kernel_rfl) rfl #[.int .u64 a1, .int .i64 (wrap64 (8 * t157))] rfl (by (try simp only [List.map_toArray, List.map_cons, List.map_nil]); first | done | rfl | (simp only [List.length_drop, List.length_take]; rfl)) ?_; (with_reducible refine (bits_Sign.calls a1 (wrap64 (8 * t157)) t160 _ A10.out).mono ?_); rintro e w' ⟨rfl, ⟨nd, rfl⟩⟩; refine ⟨_, rfl, ?_⟩))
          go_ret
          exact ⟨by first | rfl | (simp; done) | (simp [*]; done), by repeat (first | exact Drawn0.refl _ | apply Drawn0.step)⟩
  · replace c5 := Bool.eq_false_iff.mpr c5
    subst c5
    have H1 : (some 0) = some r := by rw [if_neg (show ¬ (false = true) by decide)] at H; exact H
    clear H
    have H := H1
    clear H1
    obtain rfl := Option.some.inj H
    go_enter Try.func24, Try.ntmps24
    go_wp2_with (first | ((with_reducible refine gate_callee (f := 44) rfl ?_); refine goesL_ (some 7) rfl rfl Try.func44 (by kernel_rfl) rfl #[.int .i64 a0] rfl (by (try simp only [List.map_toArray, List.map_cons, List.map_nil]); first | done | rfl | (simp only [List.length_drop, List.length_take]; rfl)) ?_; (with_reducible refine (inst_Size.calls a0 t157 _ A3.out).mono ?_); rintro e w' ⟨rfl, ⟨nd, rfl⟩⟩; refine ⟨_, rfl, ?_⟩) | ((with_reducible refine gate_callee (f := 45) rfl ?_); refine goesL_ (some 11) rfl rfl Try.func45 (by kernel_rfl) rfl #[.int .i64 a0] rfl (by (try simp only [List.map_toArray, List.map_cons, List.map_nil]); first | done | rfl | (simp only [List.length_drop, List.length_take]; rfl)) ?_; (with_reducible refine (inst_Loads.calls a0 false _ A4.out).mono ?_); rintro e w' ⟨rfl, ⟨nd, rfl⟩⟩; refine ⟨_, rfl, ?_⟩))
    go_ret
    exact ⟨by first | rfl | (simp; done) | (simp [*]; done), by repeat (first | exact Drawn0.refl _ | apply Drawn0.step)⟩

/-! ### postbagref02_Atomic0: function 42 -/
def postbagref02_Atomic0.f (a0 : Int) : Option (Bool) := if a0 ≥ 66 then (some (decide (a0 ≤ 87))) else (some false)
set_option maxHeartbeats 8000000 in
set_option maxRecDepth 100000 in
theorem postbagref02_Atomic0.calls (a0 : Int) (r : Bool) (w : World) (h : postbagref02_Atomic0.f a0 = some r) :
    Calls Try.prog 42 #[.int .i64 a0] w fun e w' => e = .returned (.bool r) ∧ Drawn0 w w' := by
  have H : (if a0 ≥ 66 then (some (decide (a0 ≤ 87))) else (some false)) = some r := h
  clear h
  by_cases c2 : a0 ≥ 66
  · rw [if_pos c2] at H
    have c2b0 : decide (66 ≤ a0) = true := decide_eq_true c2
    clear c2
    obtain rfl := Option.some.inj H
    go_enter Try.func42, Try.ntmps42
    go_wp2
    go_ret
    exact ⟨by first | rfl | (simp; done) | (simp [*]; done), by repeat (first | exact Drawn0.refl _ | apply Drawn0.step)⟩
  · rw [if_neg c2] at H
    have c2b0 : decide (66 ≤ a0) = false := decide_eq_false c2
    clear c2
    obtain rfl := Option.some.inj H
    go_enter Try.func42, Try.ntmps42
    go_wp2
    go_ret
    exact ⟨by first | rfl | (simp; done) | (simp [*]; done), by repeat (first | exact Drawn0.refl _ | apply Drawn0.step)⟩
def postbagref02_Atomic.f (a0 : Int) : Option (Bool) := some (decide (66 ≤ a0 ∧ a0 ≤ 87))
theorem postbagref02_Atomic.spec (a0 : Int) (r : Bool) (h : postbagref02_Atomic.f a0 = some r) : postbagref02_Atomic0.f a0 = some r := by
  rw [← h]; unfold postbagref02_Atomic0.f postbagref02_Atomic.f
  by_cases h1 : 66 ≤ a0 <;> simp [h1]

theorem postbagref02_Atomic.calls (a0 : Int) (r : Bool) (w : World) (h : postbagref02_Atomic.f a0 = some r) :
    Calls Try.prog 42 #[.int .i64 a0] w fun e w' => e = .returned (.bool r) ∧ Drawn0 w w' := by
  have hk := postbagref02_Atomic.spec a0 r h
  exact postbagref02_Atomic0.calls a0 r w hk

/-! ### postbagref02_Loads0: function 46 -/
def postbagref02_Loads0.f (a0 : Int) : Option (Bool) := if a0 ≥ 11 then (if a0 ≤ 17 then (some true) else ((postbagref02_Atomic.f a0).bind fun t161 => (if t161 = true then (if a0 = 67 then (some false) else (some (a0 != 78))) else (some false)))) else ((postbagref02_Atomic.f a0).bind fun t162 => (if t162 = true then (if a0 = 67 then (some false) else (some (a0 != 78))) else (some false)))
set_option maxHeartbeats 8000000 in
set_option maxRecDepth 100000 in
theorem postbagref02_Loads0.calls (a0 : Int) (r : Bool) (w : World) (h : postbagref02_Loads0.f a0 = some r) :
    Calls Try.prog 46 #[.int .i64 a0] w fun e w' => e = .returned (.bool r) ∧ Drawn0 w w' := by
  have H : (if a0 ≥ 11 then (if a0 ≤ 17 then (some true) else ((postbagref02_Atomic.f a0).bind fun t161 => (if t161 = true then (if a0 = 67 then (some false) else (some (a0 != 78))) else (some false)))) else ((postbagref02_Atomic.f a0).bind fun t162 => (if t162 = true then (if a0 = 67 then (some false) else (some (a0 != 78))) else (some false)))) = some r := h
  clear h
  by_cases c2 : a0 ≥ 11
  · rw [if_pos c2] at H
    have c2b0 : decide (11 ≤ a0) = true := decide_eq_true c2
    clear c2
    by_cases c3 : a0 ≤ 17
    · rw [if_pos c3] at H
      have c3b0 : decide (a0 ≤ 17) = true := decide_eq_true c3
      clear c3
      obtain rfl := Option.some.inj H
      go_enter Try.func46, Try.ntmps46
      go_wp2
      go_ret
      exact ⟨by first | rfl | (simp; done) | (simp [*]; done), by repeat (first | exact Drawn0.refl _ | apply Drawn0.step)⟩
    · rw [if_neg c3] at H
      have c3b0 : decide (a0 ≤ 17) = false := decide_eq_false c3
      clear c3
      replace H := Option.bind_eq_some_iff.mp H
      obtain ⟨t161, A40, H⟩ := H
      replace H : (if t161 = true then (if a0 = 67 then (some false) else (some (a0 != 78))) else (some false)) = some r := H
      have A4 := Aside0.mk A40
      clear A40
      by_cases c5 : t161 = true
      · subst c5
        have H1 : (if a0 = 67 then (some false) else (some (a0 != 78))) = some r := by rw [if_pos rfl] at H; exact H
        clear H
        have H := H1
        clear H1
        by_cases c6 : a0 = 67
        · rw [if_pos c6] at H
          have c6b0 : (a0 == 67) = true := beq_iff_eq.mpr c6
          have c6b1 : (a0 != 67) = false := bne_eq_false_iff_eq.mpr c6
          clear c6
          obtain rfl := Option.some.inj H
          go_enter Try.func46, Try.ntmps46
          go_wp2_with (first | (go_at_call 42; (with_reducible refine (postbagref02_Atomic.calls a0 true _ A4.out).mono ?_); rintro e w' ⟨rfl, ⟨nd, rfl⟩⟩))
          go_ret
          exact ⟨by first | rfl | (simp; done) | (simp [*]; done), by repeat (first | exact Drawn0.refl _ | apply Drawn0.step)⟩
        · rw [if_neg c6] at H
          have c6b0 : (a0 == 67) = false := beq_eq_false_iff_ne.mpr c6
          have c6b1 : (a0 != 67) = true := bne_iff_ne.mpr c6
          obtain rfl := Option.some.inj H
          go_enter Try.func46, Try.ntmps46
          go_wp2_with (first | (go_at_call 42; (with_reducible refine (postbagref02_Atomic.calls a0 true _ A4.out).mono ?_); rintro e w' ⟨rfl, ⟨nd, rfl⟩⟩))
          go_ret
          exact ⟨by first | rfl | (simp; done) | (simp [*]; done), by repeat (first | exact Drawn0.refl _ | apply Drawn0.step)⟩
      · replace c5 := Bool.eq_false_iff.mpr c5
        subst c5
        have H1 : (some false) = some r := by rw [if_neg (show ¬ (false = true) by decide)] at H; exact H
        clear H
        have H := H1
        clear H1
        obtain rfl := Option.some.inj H
        go_enter Try.func46, Try.ntmps46
        go_wp2_with (first | (go_at_call 42; (with_reducible refine (postbagref02_Atomic.calls a0 false _ A4.out).mono ?_); rintro e w' ⟨rfl, ⟨nd, rfl⟩⟩))
        go_ret
        exact ⟨by first | rfl | (simp; done) | (simp [*]; done), by repeat (first | exact Drawn0.refl _ | apply Drawn0.step)⟩
  · rw [if_neg c2] at H
    have c2b0 : decide (11 ≤ a0) = false := decide_eq_false c2
    clear c2
    replace H := Option.bind_eq_some_iff.mp H
    obtain ⟨t162, A70, H⟩ := H
    replace H : (if t162 = true then (if a0 = 67 then (some false) else (some (a0 != 78))) else (some false)) = some r := H
    have A7 := Aside0.mk A70
    clear A70
    by_cases c8 : t162 = true
    · subst c8
      have H1 : (if a0 = 67 then (some false) else (some (a0 != 78))) = some r := by rw [if_pos rfl] at H; exact H
      clear H
      have H := H1
      clear H1
      by_cases c9 : a0 = 67
      · rw [if_pos c9] at H
        have c9b0 : (a0 == 67) = true := beq_iff_eq.mpr c9
        have c9b1 : (a0 != 67) = false := bne_eq_false_iff_eq.mpr c9
        clear c9
        obtain rfl := Option.some.inj H
        go_enter Try.func46, Try.ntmps46
        go_wp2_with (first | (go_at_call 42; (with_reducible refine (postbagref02_Atomic.calls a0 true _ A7.out).mono ?_); rintro e w' ⟨rfl, ⟨nd, rfl⟩⟩))
        go_ret
        exact ⟨by first | rfl | (simp; done) | (simp [*]; done), by repeat (first | exact Drawn0.refl _ | apply Drawn0.step)⟩
      · rw [if_neg c9] at H
        have c9b0 : (a0 == 67) = false := beq_eq_false_iff_ne.mpr c9
        have c9b1 : (a0 != 67) = true := bne_iff_ne.mpr c9
        obtain rfl := Option.some.inj H
        go_enter Try.func46, Try.ntmps46
        go_wp2_with (first | (go_at_call 42; (with_reducible refine (postbagref02_Atomic.calls a0 true _ A7.out).mono ?_); rintro e w' ⟨rfl, ⟨nd, rfl⟩⟩))
        go_ret
        exact ⟨by first | rfl | (simp; done) | (simp [*]; done), by repeat (first | exact Drawn0.refl _ | apply Drawn0.step)⟩
    · replace c8 := Bool.eq_false_iff.mpr c8
      subst c8
      have H1 : (some false) = some r := by rw [if_neg (show ¬ (false = true) by decide)] at H; exact H
      clear H
      have H := H1
      clear H1
      obtain rfl := Option.some.inj H
      go_enter Try.func46, Try.ntmps46
      go_wp2_with (first | (go_at_call 42; (with_reducible refine (postbagref02_Atomic.calls a0 false _ A7.out).mono ?_); rintro e w' ⟨rfl, ⟨nd, rfl⟩⟩))
      go_ret
      exact ⟨by first | rfl | (simp; done) | (simp [*]; done), by repeat (first | exact Drawn0.refl _ | apply Drawn0.step)⟩
def postbagref02_Loads.f (a0 : Int) : Option (Bool) := some (decide (11 ≤ a0 ∧ a0 ≤ 17 ∨ 66 ≤ a0 ∧ a0 ≤ 87 ∧ a0 ≠ 67 ∧ a0 ≠ 78))
theorem postbagref02_Loads.spec (a0 : Int) (r : Bool) (h : postbagref02_Loads.f a0 = some r) : postbagref02_Loads0.f a0 = some r := by
  rw [← h]; unfold postbagref02_Loads.f
  by_cases h1 : 11 ≤ a0 <;> by_cases h2 : a0 ≤ 17 <;> by_cases h3 : 66 ≤ a0 <;> by_cases h4 : a0 ≤ 87 <;> by_cases h5 : a0 = 67 <;> by_cases h6 : a0 = 78 <;> first | omega | (simp [postbagref02_Loads0.f, postbagref02_Atomic.f, *]; done) | (subst_vars; decide +kernel)

theorem postbagref02_Loads.calls (a0 : Int) (r : Bool) (w : World) (h : postbagref02_Loads.f a0 = some r) :
    Calls Try.prog 46 #[.int .i64 a0] w fun e w' => e = .returned (.bool r) ∧ Drawn0 w w' := by
  have hk := postbagref02_Loads.spec a0 r h
  exact postbagref02_Loads0.calls a0 r w hk

end Go.Proofs.Ytjdidadafccepaa.PAluLoads
