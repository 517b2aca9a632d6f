/- DERIVED. The contracts of the Go functions that one law reaches: each call returns what the plain function beside it says, under that theorem's own premises. Written by a program (hp.py) over the kit's printed words. -/
import Derived.Test.YtjdidadafccepaaPAllx0
import Derived.Test.YtjdidadafccepaaPAllx6
import Derived.Test.YtjdidadafccepaaPAllx7
namespace Go.Proofs.Ytjdidadafccepaa.PAll
open Go.RowKit Go.Proofs.YtjdidadafccepaaW.PrintWords Go.Proofs.YtjdidadafccepaaW.PrintLast Go.Proofs.YtjdidadafccepaaW.PrintMore Go.Proofs.Ytjdidadafccepaa.M
attribute [local go_sem] max2_int min2_int max_two min_two max_three min_three max_four min_four   -- for this text's walks alone
set_option linter.unusedVariables false
set_option linter.unusedSimpArgs false

/-! ### postbagref04_word: function 71 -/
def postbagref04_word.f (a0 : Int) : Option (Int) := (postbagref01_Sign.f a0 32).bind fun t158 => (some t158)
set_option maxHeartbeats 8000000 in
set_option maxRecDepth 100000 in
theorem postbagref04_word.calls (a0 : Int) (r : Int) (w : World) (h : postbagref04_word.f a0 = some r) :
    Calls Try.prog 71 #[.int .u64 a0] w fun e w' => e = .returned (.int .u64 r) ∧ Drawn0 w w' := by
  have H : ((postbagref01_Sign.f a0 32).bind fun t158 => (some t158)) = some r := h
  clear h
  replace H := Option.bind_eq_some_iff.mp H
  obtain ⟨t158, A20, H⟩ := H
  replace H : (some t158) = some r := H
  have A2 := Aside0.mk A20
  clear A20
  obtain rfl := Option.some.inj H
  go_enter Try.func71, Try.ntmps71
  go_wp2_with (first | ((with_reducible refine gate_callee (f := 49) rfl ?_); refine goesL_ (some 4) rfl rfl Try.func49 (by kernel_rfl) rfl #[.int .u64 a0, .int .i64 32] rfl (by (try simp only [List.map_toArray, List.map_cons, List.map_nil]); first | done | rfl | (simp only [List.length_drop, List.length_take]; rfl)) ?_; (with_reducible refine (postbagref01_Sign.calls a0 32 t158 _ A2.out).mono ?_); rintro e w' ⟨rfl, ⟨nd, rfl⟩⟩; refine ⟨_, rfl, ?_⟩))
  go_ret
  exact ⟨by first | rfl | (simp; done) | (simp [*]; done), by repeat (first | exact Drawn0.refl _ | apply Drawn0.step)⟩

/-! ### postbagref04_low: function 72 -/
def postbagref04_low.f (a0 : Int) : Option (Int) := (postbagref01_Field.f a0 0 32).bind fun t159 => (some t159)
set_option maxHeartbeats 8000000 in
set_option maxRecDepth 100000 in
theorem postbagref04_low.calls (a0 : Int) (r : Int) (w : World) (h : postbagref04_low.f a0 = some r) :
    Calls Try.prog 72 #[.int .u64 a0] w fun e w' => e = .returned (.int .u64 r) ∧ Drawn0 w w' := by
  have H : ((postbagref01_Field.f a0 0 32).bind fun t159 => (some t159)) = some r := h
  clear h
  replace H := Option.bind_eq_some_iff.mp H
  obtain ⟨t159, A20, H⟩ := H
  replace H : (some t159) = some r := H
  have A2 := Aside0.mk A20
  clear A20
  obtain rfl := Option.some.inj H
  go_enter Try.func72, Try.ntmps72
  go_wp2_with (first | ((with_reducible refine gate_callee (f := 48) rfl ?_); refine goesL_ (some 4) rfl rfl Try.func48 (by kernel_rfl) rfl #[.int .u64 a0, .int .i64 0, .int .i64 32] rfl (by (try simp only [List.map_toArray, List.map_cons, List.map_nil]); first | done | rfl | (simp only [List.length_drop, List.length_take]; rfl)) ?_; (with_reducible refine (postbagref01_Field.calls a0 0 32 t159 _ A2.out).mono ?_); rintro e w' ⟨rfl, ⟨nd, rfl⟩⟩; refine ⟨_, rfl, ?_⟩))
  go_ret
  exact ⟨by first | rfl | (simp; done) | (simp [*]; done), by repeat (first | exact Drawn0.refl _ | apply Drawn0.step)⟩

/-! ### postbagref01_Quo0: function 73 -/
mutual
def postbagref01_Quo0.j0 : Nat → Int → Int → Int → Int → Option (Int)
  | 0, _, _, _, _ => none
  | k + 1, x0, x1, x7, x8 => (postbagref01_Bit.f x1 63).bind fun t161 => (if t161 = 1 then (postbagref01_Quo0.j1 k x0 x1 x7 (IntKind.u64.wrap (-x1))) else (postbagref01_Quo0.j1 k x0 x1 x7 x8))
def postbagref01_Quo0.j1 : Nat → Int → Int → Int → Int → Option (Int)
  | 0, _, _, _, _ => none
  | k + 1, x0, x1, x7, x8 => (postbagref01_Bit.f x0 63).bind fun t162 => ((postbagref01_Bit.f x1 63).bind fun t163 => (if t162 = t163 then (if x8 = 0 then (none) else (some (IntKind.u64.wrap (Int.tdiv x7 x8)))) else (if x8 = 0 then (none) else (some (IntKind.u64.wrap (-(IntKind.u64.wrap (Int.tdiv x7 x8))))))))
end
def postbagref01_Quo0.f (k : Nat) (a0 : Int) (a1 : Int) (a2 : Bool) : Option (Int) := if a1 = 0 then (some 18446744073709551615) else (if a2 = true then ((postbagref01_Bit.f a0 63).bind fun t160 => (if t160 = 1 then (postbagref01_Quo0.j0 k a0 a1 (IntKind.u64.wrap (-a0)) a1) else (postbagref01_Quo0.j0 k a0 a1 a0 a1))) else (some (IntKind.u64.wrap (Int.tdiv a0 a1))))
theorem postbagref01_Quo0.mono_l : ∀ k, (∀ y0 y1 y2 y3, LeO (postbagref01_Quo0.j0 k y0 y1 y2 y3) (postbagref01_Quo0.j0 (k + 1) y0 y1 y2 y3)) ∧ (∀ y0 y1 y2 y3, LeO (postbagref01_Quo0.j1 k y0 y1 y2 y3) (postbagref01_Quo0.j1 (k + 1) y0 y1 y2 y3))
  | 0 => ⟨fun _ _ _ _ r h => by simp [postbagref01_Quo0.j0] at h, fun _ _ _ _ r h => by simp [postbagref01_Quo0.j1] at h⟩
  | k + 1 => by
    obtain ⟨ih0, ih1⟩ := postbagref01_Quo0.mono_l k
    refine ⟨?_, ?_⟩
    · intro y0 y1 y2 y3
      unfold postbagref01_Quo0.j0
      repeat' first
      | (with_reducible exact ih0 _ _ _ _)
      | (with_reducible exact ih1 _ _ _ _)
      | (with_reducible exact LeO.refl _)
      | (with_reducible exact LeO.none _)
      | (with_reducible refine LeO.ite ?_ ?_)
      | (with_reducible refine LeO.bind ?_ (fun _ => ?_))
      | exact ih0 _ _ _ _
      | exact ih1 _ _ _ _
      | exact LeO.none _
      | refine LeO.ite ?_ ?_
      | refine LeO.bind ?_ (fun _ => ?_)
    · intro y0 y1 y2 y3
      unfold postbagref01_Quo0.j1
      repeat' first
      | (with_reducible exact ih0 _ _ _ _)
      | (with_reducible exact ih1 _ _ _ _)
      | (with_reducible exact LeO.refl _)
      | (with_reducible exact LeO.none _)
      | (with_reducible refine LeO.ite ?_ ?_)
      | (with_reducible refine LeO.bind ?_ (fun _ => ?_))
      | exact ih0 _ _ _ _
      | exact ih1 _ _ _ _
      | exact LeO.none _
      | refine LeO.ite ?_ ?_
      | refine LeO.bind ?_ (fun _ => ?_)
theorem postbagref01_Quo0.mono : ∀ a0 a1 a2 k, LeO (postbagref01_Quo0.f k a0 a1 a2) (postbagref01_Quo0.f (k + 1) a0 a1 a2) := by
  intro a0 a1 a2 k
  obtain ⟨ih0, ih1⟩ := postbagref01_Quo0.mono_l k
  unfold postbagref01_Quo0.f
  repeat' first
      | (with_reducible exact ih0 _ _ _ _)
      | (with_reducible exact ih1 _ _ _ _)
      | (with_reducible exact LeO.refl _)
      | (with_reducible exact LeO.none _)
      | (with_reducible refine LeO.ite ?_ ?_)
      | (with_reducible refine LeO.bind ?_ (fun _ => ?_))
      | exact ih0 _ _ _ _
      | exact ih1 _ _ _ _
      | exact LeO.none _
      | refine LeO.ite ?_ ?_
      | refine LeO.bind ?_ (fun _ => ?_)
set_option maxHeartbeats 8000000 in
set_option maxRecDepth 100000 in
theorem postbagref01_Quo0.calls (k : Nat) (a0 : Int) (a1 : Int) (a2 : Bool) (r : Int) (w : World) (h : postbagref01_Quo0.f k a0 a1 a2 = some r) :
    Calls Try.prog 73 #[.int .u64 a0, .int .u64 a1, .bool a2] w fun e w' => e = .returned (.int .u64 r) ∧ Drawn0 w w' := by
  have H : (if a1 = 0 then (some 18446744073709551615) else (if a2 = true then ((postbagref01_Bit.f a0 63).bind fun t160 => (if t160 = 1 then (postbagref01_Quo0.j0 k a0 a1 (IntKind.u64.wrap (-a0)) a1) else (postbagref01_Quo0.j0 k a0 a1 a0 a1))) else (some (IntKind.u64.wrap (Int.tdiv a0 a1))))) = some r := h
  clear h
  by_cases c4 : a1 = 0
  · rw [if_pos c4] at H
    have c4b0 : (a1 == 0) = true := beq_iff_eq.mpr c4
    have c4b1 : (a1 != 0) = false := bne_eq_false_iff_eq.mpr c4
    clear c4
    obtain rfl := Option.some.inj H
    go_enter Try.func73, Try.ntmps73
    go_wp2
    go_ret
    exact ⟨by first | rfl | (simp; done) | (simp [*]; done), by repeat (first | exact Drawn0.refl _ | apply Drawn0.step)⟩
  · rw [if_neg c4] at H
    have c4b0 : (a1 == 0) = false := beq_eq_false_iff_ne.mpr c4
    have c4b1 : (a1 != 0) = true := bne_iff_ne.mpr c4
    by_cases c5 : a2 = true
    · subst c5
      have H1 : ((postbagref01_Bit.f a0 63).bind fun t160 => (if t160 = 1 then (postbagref01_Quo0.j0 k a0 a1 (IntKind.u64.wrap (-a0)) a1) else (postbagref01_Quo0.j0 k a0 a1 a0 a1))) = some r := by rw [if_pos rfl] at H; exact H
      clear H
      have H := H1
      clear H1
      replace H := Option.bind_eq_some_iff.mp H
      obtain ⟨t160, A60, H⟩ := H
      replace H : (if t160 = 1 then (postbagref01_Quo0.j0 k a0 a1 (IntKind.u64.wrap (-a0)) a1) else (postbagref01_Quo0.j0 k a0 a1 a0 a1)) = some r := H
      have A6 := Aside0.mk A60
      clear A60
      have HC7 := Aside0.mk H
      clear H
      go_enter Try.func73, Try.ntmps73
      go_upto_if 20 with (first | ((with_reducible refine gate_callee (f := 69) rfl ?_); refine goesL_ (some 19) rfl rfl Try.func69 (by kernel_rfl) rfl #[.int .u64 a0, .int .i64 63] rfl (by (try simp only [List.map_toArray, List.map_cons, List.map_nil]); first | done | rfl | (simp only [List.length_drop, List.length_take]; rfl)) ?_; (with_reducible refine (postbagref01_Bit.calls a0 63 t160 _ A6.out).mono ?_); rintro e w' ⟨rfl, ⟨nd, rfl⟩⟩; refine ⟨_, rfl, ?_⟩))
      (try simp only [Act.put, List.setIfInBounds_toArray, List.set_cons_zero, List.set_cons_succ])
      go_cut [7] (fun v7 wc => ∃ (kq : Nat) (x7_6 : Int), v7 = .int .u64 x7_6 ∧ Aside0 (postbagref01_Quo0.j0 kq a0 a1 x7_6 a1 = some r) ∧ Aside0 (kq ≤ k) ∧ Drawn0 w wc)
      case first =>
        have H := HC7.out
        clear HC7
        by_cases c8 : t160 = 1
        · rw [if_pos c8] at H
          have c8b0 : (t160 == 1) = true := beq_iff_eq.mpr c8
          have c8b1 : (t160 != 1) = false := bne_eq_false_iff_eq.mpr c8
          clear c8
          (first | rw [c8b0] | (simp only [i64_w, i32_w]; rw [c8b0]) | skip)
          have H' := Aside0.mk H
          clear H
          go_wp2
          go_meet
          case rel => exact ⟨_, (IntKind.u64.wrap (-a0)), (by first | rfl | (simp; done) | (simp [*]; done)), H', ⟨by first | omega | exact Nat.le_refl _⟩, by repeat (first | exact Drawn0.refl _ | apply Drawn0.step)⟩
        · rw [if_neg c8] at H
          have c8b0 : (t160 == 1) = false := beq_eq_false_iff_ne.mpr c8
          have c8b1 : (t160 != 1) = true := bne_iff_ne.mpr c8
          (first | rw [c8b0] | (simp only [i64_w, i32_w]; rw [c8b0]) | skip)
          have H' := Aside0.mk H
          clear H
          go_wp2
          go_meet
          case rel => exact ⟨_, (a0), (by first | rfl | (simp; done) | (simp [*]; done)), H', ⟨by first | omega | exact Nat.le_refl _⟩, by repeat (first | exact Drawn0.refl _ | apply Drawn0.step)⟩
      case rest =>
        clear HC7
        try clear p2
        try clear c4
        try clear c4b0
        try clear c4b1
        try clear c5
        try clear c6
        try clear c7
        try clear c8
        try clear c8b0
        try clear c8b1
        obtain ⟨kq, x7_6, rfl, HA, HJ6, ⟨mc6, rfl⟩⟩ := hcut
        cases kq with
        | zero => exact absurd HA.out (by simp [postbagref01_Quo0.j0])
        | succ kj6 =>
          have H := HA.out
          clear HA
          simp only [postbagref01_Quo0.j0] at H
          replace H := Option.bind_eq_some_iff.mp H
          obtain ⟨t161, A90, H⟩ := H
          replace H : (if t161 = 1 then (postbagref01_Quo0.j1 kj6 a0 a1 x7_6 (IntKind.u64.wrap (-a1))) else (postbagref01_Quo0.j1 kj6 a0 a1 x7_6 a1)) = some r := H
          have A9 := Aside0.mk A90
          clear A90
          have HC10 := Aside0.mk H
          clear H
          go_upto_if 25 with (first | ((with_reducible refine gate_callee (f := 69) rfl ?_); refine goesL_ (some 24) rfl rfl Try.func69 (by kernel_rfl) rfl #[.int .u64 a1, .int .i64 63] rfl (by (try simp only [List.map_toArray, List.map_cons, List.map_nil]); first | done | rfl | (simp only [List.length_drop, List.length_take]; rfl)) ?_; (with_reducible refine (postbagref01_Bit.calls a1 63 t161 _ A9.out).mono ?_); rintro e w' ⟨rfl, ⟨nd, rfl⟩⟩; refine ⟨_, rfl, ?_⟩))
          (try simp only [Act.put, List.setIfInBounds_toArray, List.set_cons_zero, List.set_cons_succ])
          go_cut [8] (fun v8 wc => ∃ (kq : Nat) (x8_9 : Int), v8 = .int .u64 x8_9 ∧ Aside0 (postbagref01_Quo0.j1 kq a0 a1 x7_6 x8_9 = some r) ∧ Aside0 (kq ≤ kj6) ∧ Drawn0 w wc)
          case first =>
            have H := HC10.out
            clear HC10
            by_cases c11 : t161 = 1
            · rw [if_pos c11] at H
              have c11b0 : (t161 == 1) = true := beq_iff_eq.mpr c11
              have c11b1 : (t161 != 1) = false := bne_eq_false_iff_eq.mpr c11
              clear c11
              (first | rw [c11b0] | (simp only [i64_w, i32_w]; rw [c11b0]) | skip)
              have H' := Aside0.mk H
              clear H
              go_wp2
              go_meet
              case rel => exact ⟨_, (IntKind.u64.wrap (-a1)), (by first | rfl | (simp; done) | (simp [*]; done)), H', ⟨by have := HJ6.out; first | omega | exact Nat.le_refl _⟩, by repeat (first | exact Drawn0.refl _ | apply Drawn0.step)⟩
            · rw [if_neg c11] at H
              have c11b0 : (t161 == 1) = false := beq_eq_false_iff_ne.mpr c11
              have c11b1 : (t161 != 1) = true := bne_iff_ne.mpr c11
              (first | rw [c11b0] | (simp only [i64_w, i32_w]; rw [c11b0]) | skip)
              have H' := Aside0.mk H
              clear H
              go_wp2
              go_meet
              case rel => exact ⟨_, (a1), (by first | rfl | (simp; done) | (simp [*]; done)), H', ⟨by have := HJ6.out; first | omega | exact Nat.le_refl _⟩, by repeat (first | exact Drawn0.refl _ | apply Drawn0.step)⟩
          case rest =>
            clear HC10
            try clear c1
            try clear p2
            try clear c4
            try clear c4b0
            try clear c4b1
            try clear c5
            try clear c6
            try clear c7
            try clear c8
            try clear c8b0
            try clear c8b1
            try clear c11
            try clear c11b0
            try clear c11b1
            try clear p2
            obtain ⟨kq, x8_9, rfl, HA, HJ9, ⟨mc9, rfl⟩⟩ := hcut
            cases kq with
            | zero => exact absurd HA.out (by simp [postbagref01_Quo0.j1])
            | succ kj9 =>
              have H := HA.out
              clear HA
              simp only [postbagref01_Quo0.j1] at H
              replace H := Option.bind_eq_some_iff.mp H
              obtain ⟨t162, A120, H⟩ := H
              replace H : ((postbagref01_Bit.f a1 63).bind fun t163 => (if t162 = t163 then (if x8_9 = 0 then (none) else (some (IntKind.u64.wrap (Int.tdiv x7_6 x8_9)))) else (if x8_9 = 0 then (none) else (some (IntKind.u64.wrap (-(IntKind.u64.wrap (Int.tdiv x7_6 x8_9)))))))) = some r := H
              have A12 := Aside0.mk A120
              clear A120
              replace H := Option.bind_eq_some_iff.mp H
              obtain ⟨t163, A130, H⟩ := H
              replace H : (if t162 = t163 then (if x8_9 = 0 then (none) else (some (IntKind.u64.wrap (Int.tdiv x7_6 x8_9)))) else (if x8_9 = 0 then (none) else (some (IntKind.u64.wrap (-(IntKind.u64.wrap (Int.tdiv x7_6 x8_9))))))) = some r := H
              have A13 := Aside0.mk A130
              clear A130
              by_cases c14 : t162 = t163
              · rw [if_pos c14] at H
                have c14b0 : (t162 == t163) = true := beq_iff_eq.mpr c14
                have c14b1 : (t162 != t163) = false := bne_eq_false_iff_eq.mpr c14
                clear c14
                by_cases c15 : x8_9 = 0
                · rw [if_pos c15] at H
                  exact absurd H (by simp)
                · rw [if_neg c15] at H
                  have c15b0 : (x8_9 == 0) = false := beq_eq_false_iff_ne.mpr c15
                  have c15b1 : (x8_9 != 0) = true := bne_iff_ne.mpr c15
                  obtain rfl := Option.some.inj H
                  go_wp2_with (first | ((with_reducible refine gate_callee (f := 69) rfl ?_); refine goesL_ (some 29) rfl rfl Try.func69 (by kernel_rfl) rfl #[.int .u64 a0, .int .i64 63] rfl (by (try simp only [List.map_toArray, List.map_cons, List.map_nil]); first | done | rfl | (simp only [List.length_drop, List.length_take]; rfl)) ?_; (with_reducible refine (postbagref01_Bit.calls a0 63 t162 _ A12.out).mono ?_); rintro e w' ⟨rfl, ⟨nd, rfl⟩⟩; refine ⟨_, rfl, ?_⟩) | ((with_reducible refine gate_callee (f := 69) rfl ?_); refine goesL_ (some 31) rfl rfl Try.func69 (by kernel_rfl) rfl #[.int .u64 a1, .int .i64 63] rfl (by (try simp only [List.map_toArray, List.map_cons, List.map_nil]); first | done | rfl | (simp only [List.length_drop, List.length_take]; rfl)) ?_; (with_reducible refine (postbagref01_Bit.calls a1 63 t163 _ A13.out).mono ?_); rintro e w' ⟨rfl, ⟨nd, rfl⟩⟩; refine ⟨_, rfl, ?_⟩))
                  go_ret
                  exact ⟨by first | rfl | (simp; done) | (simp [*]; done), by repeat (first | exact Drawn0.refl _ | apply Drawn0.step)⟩
              · rw [if_neg c14] at H
                have c14b0 : (t162 == t163) = false := beq_eq_false_iff_ne.mpr c14
                have c14b1 : (t162 != t163) = true := bne_iff_ne.mpr c14
                by_cases c16 : x8_9 = 0
                · rw [if_pos c16] at H
                  exact absurd H (by simp)
                · rw [if_neg c16] at H
                  have c16b0 : (x8_9 == 0) = false := beq_eq_false_iff_ne.mpr c16
                  have c16b1 : (x8_9 != 0) = true := bne_iff_ne.mpr c16
                  obtain rfl := Option.some.inj H
                  go_wp2_with (first | ((with_reducible refine gate_callee (f := 69) rfl ?_); refine goesL_ (some 29) rfl rfl Try.func69 (by kernel_rfl) rfl #[.int .u64 a0, .int .i64 63] rfl (by (try simp only [List.map_toArray, List.map_cons, List.map_nil]); first | done | rfl | (simp only [List.length_drop, List.length_take]; rfl)) ?_; (with_reducible refine (postbagref01_Bit.calls a0 63 t162 _ A12.out).mono ?_); rintro e w' ⟨rfl, ⟨nd, rfl⟩⟩; refine ⟨_, rfl, ?_⟩) | ((with_reducible refine gate_callee (f := 69) rfl ?_); refine goesL_ (some 31) rfl rfl Try.func69 (by kernel_rfl) rfl #[.int .u64 a1, .int .i64 63] rfl (by (try simp only [List.map_toArray, List.map_cons, List.map_nil]); first | done | rfl | (simp only [List.length_drop, List.length_take]; rfl)) ?_; (with_reducible refine (postbagref01_Bit.calls a1 63 t163 _ A13.out).mono ?_); rintro e w' ⟨rfl, ⟨nd, rfl⟩⟩; refine ⟨_, rfl, ?_⟩))
                  go_ret
                  exact ⟨by first | rfl | (simp; done) | (simp [*]; done), by repeat (first | exact Drawn0.refl _ | apply Drawn0.step)⟩
    · replace c5 := Bool.eq_false_iff.mpr c5
      subst c5
      have H1 : (some (IntKind.u64.wrap (Int.tdiv a0 a1))) = some r := by rw [if_neg (show ¬ (false = true) by decide)] at H; exact H
      clear H
      have H := H1
      clear H1
      obtain rfl := Option.some.inj H
      go_enter Try.func73, Try.ntmps73
      go_wp2
      go_ret
      exact ⟨by first | rfl | (simp; done) | (simp [*]; done), by repeat (first | exact Drawn0.refl _ | apply Drawn0.step)⟩
def postbagref01_Quo.f (a0 : Int) (a1 : Int) (a2 : Bool) : Option (Int) := if U64 a0 ∧ U64 a1 then some (quoOf a0 a1 a2) else none
theorem postbagref01_Quo.spec (a0 a1 : Int) (a2 : Bool) (r : Int) (h : postbagref01_Quo.f a0 a1 a2 = some r) : ∃ k, postbagref01_Quo0.f k a0 a1 a2 = some r := by
  unfold postbagref01_Quo.f at h
  by_cases hu : U64 a0 ∧ U64 a1
  · rw [if_pos hu] at h
    obtain rfl := Option.some.inj h
    refine ⟨2, ?_⟩
    unfold postbagref01_Quo0.f
    by_cases h0 : a1 = 0
    · rw [if_pos h0, quoOf, if_pos h0]
    · rw [if_neg h0]
      have e63 : ∀ x : Int, U64 x → bitOf x 63 = x / 9223372036854775808 := fun x hx => by
        have h := bitOf_nat x 63 (by omega); unfold U64 at hx; show bitOf x ((63 : Nat) : Int) = _; rw [h]; show x / 9223372036854775808 % 2 = _; omega
      cases a2
      · simp only [Bool.false_eq_true, if_false]
        rw [quoOf, if_neg h0, if_neg (by decide), Int.tdiv_eq_ediv_of_nonneg hu.1.1, U64.wrap_eq]
        exact ⟨Int.ediv_nonneg hu.1.1 hu.2.1, Int.le_trans (Int.ediv_le_self _ hu.1.1) hu.1.2⟩
      · simp only [if_true, postbagref01_Bit.eq hu.1, postbagref01_Bit.eq hu.2, Option.bind_some, postbagref01_Quo0.j0, postbagref01_Quo0.j1, e63 _ hu.1, e63 _ hu.2]
        have hq := quo_signs a0 a1 hu.1 hu.2 h0
        obtain ⟨q1, q2, q3, q4⟩ := hq
        by_cases ca : a0 / 9223372036854775808 = 1 <;> by_cases cb : a1 / 9223372036854775808 = 1
        · rw [if_pos ca, if_pos cb, if_pos (by omega), if_neg (by have := hu; unfold U64 at this; rw [u64w]; omega), q1 ca cb]
        · rw [if_pos ca, if_neg cb, if_neg (by omega), if_neg h0, q2 ca (by have := hu; unfold U64 at this; omega)]
        · rw [if_neg ca, if_pos cb, if_neg (by omega), if_neg (by have := hu; unfold U64 at this; rw [u64w]; omega), q3 (by have := hu; unfold U64 at this; omega) cb]
        · rw [if_neg ca, if_neg cb, if_pos (by have := hu; unfold U64 at this; omega), if_neg h0, q4 (by have := hu; unfold U64 at this; omega) (by have := hu; unfold U64 at this; omega)]
  · rw [if_neg hu] at h; exact absurd h (by simp)
theorem postbagref01_Quo.eq {a0 a1 : Int} (h : U64 a0) (h1 : U64 a1) (a2 : Bool) : postbagref01_Quo.f a0 a1 a2 = some (quoOf a0 a1 a2) := if_pos ⟨h, h1⟩


theorem postbagref01_Quo.calls (a0 : Int) (a1 : Int) (a2 : Bool) (r : Int) (w : World) (h : postbagref01_Quo.f a0 a1 a2 = some r) :
    Calls Try.prog 73 #[.int .u64 a0, .int .u64 a1, .bool a2] w fun e w' => e = .returned (.int .u64 r) ∧ Drawn0 w w' := by
  obtain ⟨k, hk⟩ := postbagref01_Quo.spec a0 a1 a2 r h
  exact postbagref01_Quo0.calls k a0 a1 a2 r w hk

/-! ### postbagref01_Rem0: function 74 -/
def postbagref01_Rem0.f (a0 : Int) (a1 : Int) (a2 : Bool) : Option (Int) := if a1 = 0 then (some a0) else ((postbagref01_Quo.f a0 a1 a2).bind fun t164 => (some (IntKind.u64.wrap (a0 - (IntKind.u64.wrap (t164 * a1))))))
set_option maxHeartbeats 8000000 in
set_option maxRecDepth 100000 in
theorem postbagref01_Rem0.calls (a0 : Int) (a1 : Int) (a2 : Bool) (r : Int) (w : World) (h : postbagref01_Rem0.f a0 a1 a2 = some r) :
    Calls Try.prog 74 #[.int .u64 a0, .int .u64 a1, .bool a2] w fun e w' => e = .returned (.int .u64 r) ∧ Drawn0 w w' := by
  have H : (if a1 = 0 then (some a0) else ((postbagref01_Quo.f a0 a1 a2).bind fun t164 => (some (IntKind.u64.wrap (a0 - (IntKind.u64.wrap (t164 * a1))))))) = some r := h
  clear h
  by_cases c4 : a1 = 0
  · rw [if_pos c4] at H
    have c4b0 : (a1 == 0) = true := beq_iff_eq.mpr c4
    have c4b1 : (a1 != 0) = false := bne_eq_false_iff_eq.mpr c4
    clear c4
    obtain rfl := Option.some.inj H
    go_enter Try.func74, Try.ntmps74
    go_wp2
    go_ret
    exact ⟨by first | rfl | (simp; done) | (simp [*]; done), by repeat (first | exact Drawn0.refl _ | apply Drawn0.step)⟩
  · rw [if_neg c4] at H
    have c4b0 : (a1 == 0) = false := beq_eq_false_iff_ne.mpr c4
    have c4b1 : (a1 != 0) = true := bne_iff_ne.mpr c4
    replace H := Option.bind_eq_some_iff.mp H
    obtain ⟨t164, A50, H⟩ := H
    replace H : (some (IntKind.u64.wrap (a0 - (IntKind.u64.wrap (t164 * a1))))) = some r := H
    have A5 := Aside0.mk A50
    clear A50
    obtain rfl := Option.some.inj H
    go_enter Try.func74, Try.ntmps74
    go_wp2_with (first | ((with_reducible refine gate_callee (f := 73) rfl ?_); refine goesL_ (some 14) rfl rfl Try.func73 (by kernel_rfl) rfl #[.int .u64 a0, .int .u64 a1, .bool a2] rfl (by (try simp only [List.map_toArray, List.map_cons, List.map_nil]); first | done | rfl | (simp only [List.length_drop, List.length_take]; rfl)) ?_; (with_reducible refine (postbagref01_Quo.calls a0 a1 a2 t164 _ A5.out).mono ?_); rintro e w' ⟨rfl, ⟨nd, rfl⟩⟩; refine ⟨_, rfl, ?_⟩))
    go_ret
    exact ⟨by first | rfl | (simp; done) | (simp [*]; done), by repeat (first | exact Drawn0.refl _ | apply Drawn0.step)⟩
def postbagref01_Rem.f (a0 : Int) (a1 : Int) (a2 : Bool) : Option (Int) := if U64 a0 ∧ U64 a1 then some (remOf a0 a1 a2) else none
theorem postbagref01_Rem.spec (a0 a1 : Int) (a2 : Bool) (r : Int) (h : postbagref01_Rem.f a0 a1 a2 = some r) : postbagref01_Rem0.f a0 a1 a2 = some r := by
  unfold postbagref01_Rem.f at h
  by_cases hu : U64 a0 ∧ U64 a1
  · rw [if_pos hu] at h
    obtain rfl := Option.some.inj h
    unfold postbagref01_Rem0.f
    by_cases h0 : a1 = 0
    · rw [if_pos h0, remOf, if_pos h0]
    · rw [if_neg h0, postbagref01_Quo.eq hu.1 hu.2]
      simp only [Option.bind_some]
      rw [rem_quo a0 a1 a2 hu.1 hu.2 h0]
  · rw [if_neg hu] at h; exact absurd h (by simp)
theorem postbagref01_Rem.eq {a0 a1 : Int} (h : U64 a0) (h1 : U64 a1) (a2 : Bool) : postbagref01_Rem.f a0 a1 a2 = some (remOf a0 a1 a2) := if_pos ⟨h, h1⟩


theorem postbagref01_Rem.calls (a0 : Int) (a1 : Int) (a2 : Bool) (r : Int) (w : World) (h : postbagref01_Rem.f a0 a1 a2 = some r) :
    Calls Try.prog 74 #[.int .u64 a0, .int .u64 a1, .bool a2] w fun e w' => e = .returned (.int .u64 r) ∧ Drawn0 w w' := by
  have hk := postbagref01_Rem.spec a0 a1 a2 r h
  exact postbagref01_Rem0.calls a0 a1 a2 r w hk

end Go.Proofs.Ytjdidadafccepaa.PAll
