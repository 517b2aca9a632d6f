/- DERIVED. The contracts of the Go functions that one law reaches: each call returns what the plain function beside it says, under that theorem's own premises. Written by a program (hp.py) over the kit's printed words. -/
import Derived.Test.YtjdidadafccepaaPAluLoadsx0
import Derived.Test.YtjdidadafccepaaPAluLoadsx6
import Derived.Test.YtjdidadafccepaaPAluLoadsx7
import Derived.Test.YtjdidadafccepaaPAluLoadsx8
import Derived.Test.YtjdidadafccepaaPAluLoadsx9
import Derived.Test.YtjdidadafccepaaPAluLoadsx10
namespace Go.Proofs.Ytjdidadafccepaa.PAluLoads
open Go.RowKit Go.Proofs.YtjdidadafccepaaW.PrintWords Go.Proofs.YtjdidadafccepaaW.PrintLast Go.Proofs.YtjdidadafccepaaW.PrintMore Go.Proofs.Ytjdidadafccepaa.M
attribute [local go_sem] max2_int min2_int max_two min_two max_three min_three max_four min_four   -- for this text's walks alone
set_option linter.unusedVariables false
set_option linter.unusedSimpArgs false

/-! ### postbagref04_less: function 39 -/
def postbagref04_less.f (a0 : Int) (a1 : Int) : Option (Bool) := (postbagref04_negative.f a0).bind fun t177 => ((postbagref04_negative.f a1).bind fun t178 => (if (t177 != t178) = true then ((postbagref04_negative.f a0).bind fun t179 => (some t179)) else (some (decide (a0 < a1)))))
set_option maxHeartbeats 8000000 in
set_option maxRecDepth 100000 in
theorem postbagref04_less.calls (a0 : Int) (a1 : Int) (r : Bool) (w : World) (h : postbagref04_less.f a0 a1 = some r) :
    Calls Try.prog 39 #[.int .u64 a0, .int .u64 a1] w fun e w' => e = .returned (.bool r) ∧ Drawn0 w w' := by
  have H : ((postbagref04_negative.f a0).bind fun t177 => ((postbagref04_negative.f a1).bind fun t178 => (if (t177 != t178) = true then ((postbagref04_negative.f a0).bind fun t179 => (some t179)) else (some (decide (a0 < a1)))))) = some r := h
  clear h
  replace H := Option.bind_eq_some_iff.mp H
  obtain ⟨t177, A30, H⟩ := H
  replace H : ((postbagref04_negative.f a1).bind fun t178 => (if (t177 != t178) = true then ((postbagref04_negative.f a0).bind fun t179 => (some t179)) else (some (decide (a0 < a1))))) = some r := H
  have A3 := Aside0.mk A30
  clear A30
  replace H := Option.bind_eq_some_iff.mp H
  obtain ⟨t178, A40, H⟩ := H
  replace H : (if (t177 != t178) = true then ((postbagref04_negative.f a0).bind fun t179 => (some t179)) else (some (decide (a0 < a1)))) = some r := H
  have A4 := Aside0.mk A40
  clear A40
  by_cases c5 : (t177 != t178) = true
  · rw [if_pos c5] at H
    have c5b0 : (t177 != t178) = true := c5
    (try (have c5b1 : decide (t177 = t178) = false := by simpa using c5))
    (try (have c5b2 : (t177 == t178) = false := by simpa using c5))
    (try (have c5b3 : ¬ (t177 = t178) := by simpa using c5))
    clear c5
    replace H := Option.bind_eq_some_iff.mp H
    obtain ⟨t179, A60, H⟩ := H
    replace H : (some t179) = some r := H
    have A6 := Aside0.mk A60
    clear A60
    obtain rfl := Option.some.inj H
    go_enter Try.func39, Try.ntmps39
    go_wp2_with (first | ((with_reducible refine gate_callee (f := 76) rfl ?_); refine goesL_ (some 6) rfl rfl Try.func76 (by kernel_rfl) rfl #[.int .u64 a0] rfl (by (try simp only [List.map_toArray, List.map_cons, List.map_nil]); first | done | rfl | (simp only [List.length_drop, List.length_take]; rfl)) ?_; (with_reducible refine (postbagref04_negative.calls a0 t177 _ A3.out).mono ?_); rintro e w' ⟨rfl, ⟨nd, rfl⟩⟩; refine ⟨_, rfl, ?_⟩) | ((with_reducible refine gate_callee (f := 76) rfl ?_); refine goesL_ (some 8) rfl rfl Try.func76 (by kernel_rfl) rfl #[.int .u64 a1] rfl (by (try simp only [List.map_toArray, List.map_cons, List.map_nil]); first | done | rfl | (simp only [List.length_drop, List.length_take]; rfl)) ?_; (with_reducible refine (postbagref04_negative.calls a1 t178 _ A4.out).mono ?_); rintro e w' ⟨rfl, ⟨nd, rfl⟩⟩; refine ⟨_, rfl, ?_⟩) | ((with_reducible refine gate_callee (f := 76) rfl ?_); refine goesL_ (some 11) rfl rfl Try.func76 (by kernel_rfl) rfl #[.int .u64 a0] rfl (by (try simp only [List.map_toArray, List.map_cons, List.map_nil]); first | done | rfl | (simp only [List.length_drop, List.length_take]; rfl)) ?_; (with_reducible refine (postbagref04_negative.calls a0 t179 _ A6.out).mono ?_); rintro e w' ⟨rfl, ⟨nd, rfl⟩⟩; refine ⟨_, rfl, ?_⟩))
    go_ret
    exact ⟨by first | rfl | (simp; done) | (simp [*]; done), by repeat (first | exact Drawn0.refl _ | apply Drawn0.step)⟩
  · rw [if_neg c5] at H
    have c5b0 : (t177 != t178) = false := by simpa using c5
    (try (have c5b1 : decide (t177 = t178) = true := by simpa using c5))
    (try (have c5b2 : (t177 == t178) = true := by simpa using c5))
    clear c5
    obtain rfl := Option.some.inj H
    go_enter Try.func39, Try.ntmps39
    go_wp2_with (first | ((with_reducible refine gate_callee (f := 76) rfl ?_); refine goesL_ (some 6) rfl rfl Try.func76 (by kernel_rfl) rfl #[.int .u64 a0] rfl (by (try simp only [List.map_toArray, List.map_cons, List.map_nil]); first | done | rfl | (simp only [List.length_drop, List.length_take]; rfl)) ?_; (with_reducible refine (postbagref04_negative.calls a0 t177 _ A3.out).mono ?_); rintro e w' ⟨rfl, ⟨nd, rfl⟩⟩; refine ⟨_, rfl, ?_⟩) | ((with_reducible refine gate_callee (f := 76) rfl ?_); refine goesL_ (some 8) rfl rfl Try.func76 (by kernel_rfl) rfl #[.int .u64 a1] rfl (by (try simp only [List.map_toArray, List.map_cons, List.map_nil]); first | done | rfl | (simp only [List.length_drop, List.length_take]; rfl)) ?_; (with_reducible refine (postbagref04_negative.calls a1 t178 _ A4.out).mono ?_); rintro e w' ⟨rfl, ⟨nd, rfl⟩⟩; refine ⟨_, rfl, ?_⟩))
    go_ret
    exact ⟨by first | rfl | (simp; done) | (simp [*]; done), by repeat (first | exact Drawn0.refl _ | apply Drawn0.step)⟩

/-! ### postbagref02_Stores0: function 50 -/
def postbagref02_Stores0.f (a0 : Int) : Option (Bool) := if a0 ≥ 18 then (if a0 ≤ 21 then (some true) else ((postbagref02_Atomic.f a0).bind fun t180 => (if t180 = true then (if a0 = 66 then (some false) else (some (a0 != 77))) else (some false)))) else ((postbagref02_Atomic.f a0).bind fun t181 => (if t181 = true then (if a0 = 66 then (some false) else (some (a0 != 77))) else (some false)))
set_option maxHeartbeats 8000000 in
set_option maxRecDepth 100000 in
theorem postbagref02_Stores0.calls (a0 : Int) (r : Bool) (w : World) (h : postbagref02_Stores0.f a0 = some r) :
    Calls Try.prog 50 #[.int .i64 a0] w fun e w' => e = .returned (.bool r) ∧ Drawn0 w w' := by
  have H : (if a0 ≥ 18 then (if a0 ≤ 21 then (some true) else ((postbagref02_Atomic.f a0).bind fun t180 => (if t180 = true then (if a0 = 66 then (some false) else (some (a0 != 77))) else (some false)))) else ((postbagref02_Atomic.f a0).bind fun t181 => (if t181 = true then (if a0 = 66 then (some false) else (some (a0 != 77))) else (some false)))) = some r := h
  clear h
  by_cases c2 : a0 ≥ 18
  · rw [if_pos c2] at H
    have c2b0 : decide (18 ≤ a0) = true := decide_eq_true c2
    clear c2
    by_cases c3 : a0 ≤ 21
    · rw [if_pos c3] at H
      have c3b0 : decide (a0 ≤ 21) = true := decide_eq_true c3
      clear c3
      obtain rfl := Option.some.inj H
      go_enter Try.func50, Try.ntmps50
      go_wp2
      go_ret
      exact ⟨by first | rfl | (simp; done) | (simp [*]; done), by repeat (first | exact Drawn0.refl _ | apply Drawn0.step)⟩
    · rw [if_neg c3] at H
      have c3b0 : decide (a0 ≤ 21) = false := decide_eq_false c3
      clear c3
      replace H := Option.bind_eq_some_iff.mp H
      obtain ⟨t180, A40, H⟩ := H
      replace H : (if t180 = true then (if a0 = 66 then (some false) else (some (a0 != 77))) else (some false)) = some r := H
      have A4 := Aside0.mk A40
      clear A40
      by_cases c5 : t180 = true
      · subst c5
        have H1 : (if a0 = 66 then (some false) else (some (a0 != 77))) = some r := by rw [if_pos rfl] at H; exact H
        clear H
        have H := H1
        clear H1
        by_cases c6 : a0 = 66
        · rw [if_pos c6] at H
          have c6b0 : (a0 == 66) = true := beq_iff_eq.mpr c6
          have c6b1 : (a0 != 66) = false := bne_eq_false_iff_eq.mpr c6
          clear c6
          obtain rfl := Option.some.inj H
          go_enter Try.func50, Try.ntmps50
          go_wp2_with (first | (go_at_call 42; (with_reducible refine (postbagref02_Atomic.calls a0 true _ A4.out).mono ?_); rintro e w' ⟨rfl, ⟨nd, rfl⟩⟩))
          go_ret
          exact ⟨by first | rfl | (simp; done) | (simp [*]; done), by repeat (first | exact Drawn0.refl _ | apply Drawn0.step)⟩
        · rw [if_neg c6] at H
          have c6b0 : (a0 == 66) = false := beq_eq_false_iff_ne.mpr c6
          have c6b1 : (a0 != 66) = true := bne_iff_ne.mpr c6
          obtain rfl := Option.some.inj H
          go_enter Try.func50, Try.ntmps50
          go_wp2_with (first | (go_at_call 42; (with_reducible refine (postbagref02_Atomic.calls a0 true _ A4.out).mono ?_); rintro e w' ⟨rfl, ⟨nd, rfl⟩⟩))
          go_ret
          exact ⟨by first | rfl | (simp; done) | (simp [*]; done), by repeat (first | exact Drawn0.refl _ | apply Drawn0.step)⟩
      · replace c5 := Bool.eq_false_iff.mpr c5
        subst c5
        have H1 : (some false) = some r := by rw [if_neg (show ¬ (false = true) by decide)] at H; exact H
        clear H
        have H := H1
        clear H1
        obtain rfl := Option.some.inj H
        go_enter Try.func50, Try.ntmps50
        go_wp2_with (first | (go_at_call 42; (with_reducible refine (postbagref02_Atomic.calls a0 false _ A4.out).mono ?_); rintro e w' ⟨rfl, ⟨nd, rfl⟩⟩))
        go_ret
        exact ⟨by first | rfl | (simp; done) | (simp [*]; done), by repeat (first | exact Drawn0.refl _ | apply Drawn0.step)⟩
  · rw [if_neg c2] at H
    have c2b0 : decide (18 ≤ a0) = false := decide_eq_false c2
    clear c2
    replace H := Option.bind_eq_some_iff.mp H
    obtain ⟨t181, A70, H⟩ := H
    replace H : (if t181 = true then (if a0 = 66 then (some false) else (some (a0 != 77))) else (some false)) = some r := H
    have A7 := Aside0.mk A70
    clear A70
    by_cases c8 : t181 = true
    · subst c8
      have H1 : (if a0 = 66 then (some false) else (some (a0 != 77))) = some r := by rw [if_pos rfl] at H; exact H
      clear H
      have H := H1
      clear H1
      by_cases c9 : a0 = 66
      · rw [if_pos c9] at H
        have c9b0 : (a0 == 66) = true := beq_iff_eq.mpr c9
        have c9b1 : (a0 != 66) = false := bne_eq_false_iff_eq.mpr c9
        clear c9
        obtain rfl := Option.some.inj H
        go_enter Try.func50, Try.ntmps50
        go_wp2_with (first | (go_at_call 42; (with_reducible refine (postbagref02_Atomic.calls a0 true _ A7.out).mono ?_); rintro e w' ⟨rfl, ⟨nd, rfl⟩⟩))
        go_ret
        exact ⟨by first | rfl | (simp; done) | (simp [*]; done), by repeat (first | exact Drawn0.refl _ | apply Drawn0.step)⟩
      · rw [if_neg c9] at H
        have c9b0 : (a0 == 66) = false := beq_eq_false_iff_ne.mpr c9
        have c9b1 : (a0 != 66) = true := bne_iff_ne.mpr c9
        obtain rfl := Option.some.inj H
        go_enter Try.func50, Try.ntmps50
        go_wp2_with (first | (go_at_call 42; (with_reducible refine (postbagref02_Atomic.calls a0 true _ A7.out).mono ?_); rintro e w' ⟨rfl, ⟨nd, rfl⟩⟩))
        go_ret
        exact ⟨by first | rfl | (simp; done) | (simp [*]; done), by repeat (first | exact Drawn0.refl _ | apply Drawn0.step)⟩
    · replace c8 := Bool.eq_false_iff.mpr c8
      subst c8
      have H1 : (some false) = some r := by rw [if_neg (show ¬ (false = true) by decide)] at H; exact H
      clear H
      have H := H1
      clear H1
      obtain rfl := Option.some.inj H
      go_enter Try.func50, Try.ntmps50
      go_wp2_with (first | (go_at_call 42; (with_reducible refine (postbagref02_Atomic.calls a0 false _ A7.out).mono ?_); rintro e w' ⟨rfl, ⟨nd, rfl⟩⟩))
      go_ret
      exact ⟨by first | rfl | (simp; done) | (simp [*]; done), by repeat (first | exact Drawn0.refl _ | apply Drawn0.step)⟩
def postbagref02_Stores.f (a0 : Int) : Option (Bool) := some (decide (18 ≤ a0 ∧ a0 ≤ 21 ∨ 66 ≤ a0 ∧ a0 ≤ 87 ∧ a0 ≠ 66 ∧ a0 ≠ 77))
theorem postbagref02_Stores.spec (a0 : Int) (r : Bool) (h : postbagref02_Stores.f a0 = some r) : postbagref02_Stores0.f a0 = some r := by
  rw [← h]; unfold postbagref02_Stores.f
  by_cases h1 : 18 ≤ a0 <;> by_cases h2 : a0 ≤ 21 <;> by_cases h3 : 66 ≤ a0 <;> by_cases h4 : a0 ≤ 87 <;> by_cases h5 : a0 = 66 <;> by_cases h6 : a0 = 77 <;> first | omega | (simp [postbagref02_Stores0.f, postbagref02_Atomic.f, *]; done) | (subst_vars; decide +kernel)

theorem postbagref02_Stores.calls (a0 : Int) (r : Bool) (w : World) (h : postbagref02_Stores.f a0 = some r) :
    Calls Try.prog 50 #[.int .i64 a0] w fun e w' => e = .returned (.bool r) ∧ Drawn0 w w' := by
  have hk := postbagref02_Stores.spec a0 r h
  exact postbagref02_Stores0.calls a0 r w hk

/-! ### postbagref04_Stored: function 26 -/
def postbagref04_Stored.j0 : Nat → Int → Int → Int → Int → Int → Int → Int → Option (Int)
  | 0, _, _, _, _, _, _, _ => none
  | k + 1, x7, x8, x9, x10, x11, x12, x13 => if x13 = 69 then ((postbagref01_Field.f (IntKind.u64.wrap (x8 + x9)) 0 x7).bind fun t188 => (some t188)) else (if x13 = 70 then ((postbagref01_Field.f (Go.bits .xor .u64 x8 x9) 0 x7).bind fun t189 => (some t189)) else (if x13 = 71 then ((postbagref01_Field.f (Go.bits .and .u64 x8 x9) 0 x7).bind fun t190 => (some t190)) else (if x13 = 72 then ((postbagref01_Field.f (Go.bits .or .u64 x8 x9) 0 x7).bind fun t191 => (some t191)) else (if x13 = 73 then ((postbagref04_less.f x8 x9).bind fun t192 => (if t192 = true then ((postbagref01_Field.f x8 0 x7).bind fun t193 => (some t193)) else ((postbagref01_Field.f x12 0 x7).bind fun t194 => (some t194)))) else (if x13 = 74 then ((postbagref04_less.f x9 x8).bind fun t195 => (if t195 = true then ((postbagref01_Field.f x8 0 x7).bind fun t196 => (some t196)) else ((postbagref01_Field.f x12 0 x7).bind fun t197 => (some t197)))) else (if x13 = 75 then ((postbagref01_Field.f (mn x10 x11) 0 x7).bind fun t198 => (some t198)) else (if x13 = 76 then ((postbagref01_Field.f (mx x10 x11) 0 x7).bind fun t199 => (some t199)) else ((postbagref01_Field.f x12 0 x7).bind fun t200 => (some t200)))))))))
def postbagref04_Stored.f (k : Nat) (a0 : Int) (a1 : Int) (a2 : Int) : Option (Int) := (postbagref02_Stores.f a0).bind fun t182 => (if t182 = true then ((postbagref02_Size.f a0).bind fun t183 => ((postbagref01_Sign.f a1 (wrap64 (8 * t183))).bind fun t184 => ((postbagref01_Sign.f a2 (wrap64 (8 * t183))).bind fun t185 => ((postbagref01_Field.f a1 0 (wrap64 (8 * t183))).bind fun t186 => ((postbagref01_Field.f a2 0 (wrap64 (8 * t183))).bind fun t187 => (if a0 ≥ 77 then (postbagref04_Stored.j0 k (wrap64 (8 * t183)) t184 t185 t186 t187 t185 (wrap64 ((wrap64 (a0 - 77)) + 66))) else (postbagref04_Stored.j0 k (wrap64 (8 * t183)) t184 t185 t186 t187 t185 a0))))))) else (some 0))
theorem postbagref04_Stored.mono_l : ∀ k, (∀ y0 y1 y2 y3 y4 y5 y6, LeO (postbagref04_Stored.j0 k y0 y1 y2 y3 y4 y5 y6) (postbagref04_Stored.j0 (k + 1) y0 y1 y2 y3 y4 y5 y6))
  | 0 => fun _ _ _ _ _ _ _ r h => by simp [postbagref04_Stored.j0] at h
  | k + 1 => by
    have ih0 := postbagref04_Stored.mono_l k
    · intro y0 y1 y2 y3 y4 y5 y6
      unfold postbagref04_Stored.j0
      repeat' first
      | (with_reducible exact ih0 _ _ _ _ _ _ _)
      | (with_reducible exact LeO.refl _)
      | (with_reducible exact LeO.none _)
      | (with_reducible refine LeO.ite ?_ ?_)
      | (with_reducible refine LeO.bind ?_ (fun _ => ?_))
      | exact ih0 _ _ _ _ _ _ _
      | exact LeO.none _
      | refine LeO.ite ?_ ?_
      | refine LeO.bind ?_ (fun _ => ?_)
theorem postbagref04_Stored.mono : ∀ a0 a1 a2 k, LeO (postbagref04_Stored.f k a0 a1 a2) (postbagref04_Stored.f (k + 1) a0 a1 a2) := by
  intro a0 a1 a2 k
  have ih0 := postbagref04_Stored.mono_l k
  unfold postbagref04_Stored.f
  repeat' first
      | (with_reducible exact ih0 _ _ _ _ _ _ _)
      | (with_reducible exact LeO.refl _)
      | (with_reducible exact LeO.none _)
      | (with_reducible refine LeO.ite ?_ ?_)
      | (with_reducible refine LeO.bind ?_ (fun _ => ?_))
      | exact ih0 _ _ _ _ _ _ _
      | exact LeO.none _
      | refine LeO.ite ?_ ?_
      | refine LeO.bind ?_ (fun _ => ?_)
set_option maxHeartbeats 8000000 in
set_option maxRecDepth 100000 in
theorem postbagref04_Stored.calls (k : Nat) (a0 : Int) (a1 : Int) (a2 : Int) (r : Int) (w : World) (h : postbagref04_Stored.f k a0 a1 a2 = some r) :
    Calls Try.prog 26 #[.int .i64 a0, .int .u64 a1, .int .u64 a2] w fun e w' => e = .returned (.int .u64 r) ∧ Below w.heap.size w w' := by
  have HB := Aside0.mk (Below.refl w.heap.size w)
  have H : ((postbagref02_Stores.f a0).bind fun t182 => (if t182 = true then ((postbagref02_Size.f a0).bind fun t183 => ((postbagref01_Sign.f a1 (wrap64 (8 * t183))).bind fun t184 => ((postbagref01_Sign.f a2 (wrap64 (8 * t183))).bind fun t185 => ((postbagref01_Field.f a1 0 (wrap64 (8 * t183))).bind fun t186 => ((postbagref01_Field.f a2 0 (wrap64 (8 * t183))).bind fun t187 => (if a0 ≥ 77 then (postbagref04_Stored.j0 k (wrap64 (8 * t183)) t184 t185 t186 t187 t185 (wrap64 ((wrap64 (a0 - 77)) + 66))) else (postbagref04_Stored.j0 k (wrap64 (8 * t183)) t184 t185 t186 t187 t185 a0))))))) else (some 0))) = some r := h
  clear h
  replace H := Option.bind_eq_some_iff.mp H
  obtain ⟨t182, A40, H⟩ := H
  replace H : (if t182 = true then ((postbagref02_Size.f a0).bind fun t183 => ((postbagref01_Sign.f a1 (wrap64 (8 * t183))).bind fun t184 => ((postbagref01_Sign.f a2 (wrap64 (8 * t183))).bind fun t185 => ((postbagref01_Field.f a1 0 (wrap64 (8 * t183))).bind fun t186 => ((postbagref01_Field.f a2 0 (wrap64 (8 * t183))).bind fun t187 => (if a0 ≥ 77 then (postbagref04_Stored.j0 k (wrap64 (8 * t183)) t184 t185 t186 t187 t185 (wrap64 ((wrap64 (a0 - 77)) + 66))) else (postbagref04_Stored.j0 k (wrap64 (8 * t183)) t184 t185 t186 t187 t185 a0))))))) else (some 0)) = some r := H
  have A4 := Aside0.mk A40
  clear A40
  by_cases c5 : t182 = true
  · subst c5
    have H1 : ((postbagref02_Size.f a0).bind fun t183 => ((postbagref01_Sign.f a1 (wrap64 (8 * t183))).bind fun t184 => ((postbagref01_Sign.f a2 (wrap64 (8 * t183))).bind fun t185 => ((postbagref01_Field.f a1 0 (wrap64 (8 * t183))).bind fun t186 => ((postbagref01_Field.f a2 0 (wrap64 (8 * t183))).bind fun t187 => (if a0 ≥ 77 then (postbagref04_Stored.j0 k (wrap64 (8 * t183)) t184 t185 t186 t187 t185 (wrap64 ((wrap64 (a0 - 77)) + 66))) else (postbagref04_Stored.j0 k (wrap64 (8 * t183)) t184 t185 t186 t187 t185 a0))))))) = some r := by rw [if_pos rfl] at H; exact H
    clear H
    have H := H1
    clear H1
    replace H := Option.bind_eq_some_iff.mp H
    obtain ⟨t183, A60, H⟩ := H
    replace H : ((postbagref01_Sign.f a1 (wrap64 (8 * t183))).bind fun t184 => ((postbagref01_Sign.f a2 (wrap64 (8 * t183))).bind fun t185 => ((postbagref01_Field.f a1 0 (wrap64 (8 * t183))).bind fun t186 => ((postbagref01_Field.f a2 0 (wrap64 (8 * t183))).bind fun t187 => (if a0 ≥ 77 then (postbagref04_Stored.j0 k (wrap64 (8 * t183)) t184 t185 t186 t187 t185 (wrap64 ((wrap64 (a0 - 77)) + 66))) else (postbagref04_Stored.j0 k (wrap64 (8 * t183)) t184 t185 t186 t187 t185 a0)))))) = some r := H
    have A6 := Aside0.mk A60
    clear A60
    replace H := Option.bind_eq_some_iff.mp H
    obtain ⟨t184, A70, H⟩ := H
    replace H : ((postbagref01_Sign.f a2 (wrap64 (8 * t183))).bind fun t185 => ((postbagref01_Field.f a1 0 (wrap64 (8 * t183))).bind fun t186 => ((postbagref01_Field.f a2 0 (wrap64 (8 * t183))).bind fun t187 => (if a0 ≥ 77 then (postbagref04_Stored.j0 k (wrap64 (8 * t183)) t184 t185 t186 t187 t185 (wrap64 ((wrap64 (a0 - 77)) + 66))) else (postbagref04_Stored.j0 k (wrap64 (8 * t183)) t184 t185 t186 t187 t185 a0))))) = some r := H
    have A7 := Aside0.mk A70
    clear A70
    replace H := Option.bind_eq_some_iff.mp H
    obtain ⟨t185, A80, H⟩ := H
    replace H : ((postbagref01_Field.f a1 0 (wrap64 (8 * t183))).bind fun t186 => ((postbagref01_Field.f a2 0 (wrap64 (8 * t183))).bind fun t187 => (if a0 ≥ 77 then (postbagref04_Stored.j0 k (wrap64 (8 * t183)) t184 t185 t186 t187 t185 (wrap64 ((wrap64 (a0 - 77)) + 66))) else (postbagref04_Stored.j0 k (wrap64 (8 * t183)) t184 t185 t186 t187 t185 a0)))) = some r := H
    have A8 := Aside0.mk A80
    clear A80
    replace H := Option.bind_eq_some_iff.mp H
    obtain ⟨t186, A90, H⟩ := H
    replace H : ((postbagref01_Field.f a2 0 (wrap64 (8 * t183))).bind fun t187 => (if a0 ≥ 77 then (postbagref04_Stored.j0 k (wrap64 (8 * t183)) t184 t185 t186 t187 t185 (wrap64 ((wrap64 (a0 - 77)) + 66))) else (postbagref04_Stored.j0 k (wrap64 (8 * t183)) t184 t185 t186 t187 t185 a0))) = some r := H
    have A9 := Aside0.mk A90
    clear A90
    replace H := Option.bind_eq_some_iff.mp H
    obtain ⟨t187, A100, H⟩ := H
    replace H : (if a0 ≥ 77 then (postbagref04_Stored.j0 k (wrap64 (8 * t183)) t184 t185 t186 t187 t185 (wrap64 ((wrap64 (a0 - 77)) + 66))) else (postbagref04_Stored.j0 k (wrap64 (8 * t183)) t184 t185 t186 t187 t185 a0)) = some r := H
    have A10 := Aside0.mk A100
    clear A100
    have HC11 := Aside0.mk H
    clear H
    go_enter Try.func26, Try.ntmps26
    go_upto_if 35 with (first | ((with_reducible refine gate_callee (f := 50) rfl ?_); refine goesL_ (some 15) rfl rfl Try.func50 (by kernel_rfl) rfl #[.int .i64 a0] rfl (by (try simp only [List.map_toArray, List.map_cons, List.map_nil]); first | done | rfl | (simp only [List.length_drop, List.length_take]; rfl)) ?_; (with_reducible refine (postbagref02_Stores.calls a0 true _ A4.out).mono ?_); rintro e w' ⟨rfl, ⟨nd, rfl⟩⟩; refine ⟨_, rfl, ?_⟩) | ((with_reducible refine gate_callee (f := 47) rfl ?_); refine goesL_ (some 18) rfl rfl Try.func47 (by kernel_rfl) rfl #[.int .i64 a0] rfl (by (try simp only [List.map_toArray, List.map_cons, List.map_nil]); first | done | rfl | (simp only [List.length_drop, List.length_take]; rfl)) ?_; (with_reducible refine (postbagref02_Size.calls a0 t183 _ A6.out).mono ?_); rintro e w' ⟨rfl, ⟨nd, rfl⟩⟩; refine ⟨_, rfl, ?_⟩) | ((with_reducible refine gate_callee (f := 49) rfl ?_); refine goesL_ (some 22) rfl rfl Try.func49 (by kernel_rfl) rfl #[.int .u64 a1, .int .i64 (wrap64 (8 * t183))] rfl (by (try simp only [List.map_toArray, List.map_cons, List.map_nil]); first | done | rfl | (simp only [List.length_drop, List.length_take]; rfl)) ?_; (with_reducible refine (postbagref01_Sign.calls a1 (wrap64 (8 * t183)) t184 _ A7.out).mono ?_); rintro e w' ⟨rfl, ⟨nd, rfl⟩⟩; refine ⟨_, rfl, ?_⟩) | ((with_reducible refine gate_callee (f := 49) rfl ?_); refine goesL_ (some 25) rfl rfl Try.func49 (by kernel_rfl) rfl #[.int .u64 a2, .int .i64 (wrap64 (8 * t183))] rfl (by (try simp only [List.map_toArray, List.map_cons, List.map_nil]); first | done | rfl | (simp only [List.length_drop, List.length_take]; rfl)) ?_; (with_reducible refine (postbagref01_Sign.calls a2 (wrap64 (8 * t183)) t185 _ A8.out).mono ?_); rintro e w' ⟨rfl, ⟨nd, rfl⟩⟩; refine ⟨_, rfl, ?_⟩) | ((with_reducible refine gate_callee (f := 48) rfl ?_); refine goesL_ (some 28) rfl rfl Try.func48 (by kernel_rfl) rfl #[.int .u64 a1, .int .i64 0, .int .i64 (wrap64 (8 * t183))] rfl (by (try simp only [List.map_toArray, List.map_cons, List.map_nil]); first | done | rfl | (simp only [List.length_drop, List.length_take]; rfl)) ?_; (with_reducible refine (postbagref01_Field.calls a1 0 (wrap64 (8 * t183)) t186 _ A9.out).mono ?_); rintro e w' ⟨rfl, ⟨nd, rfl⟩⟩; refine ⟨_, rfl, ?_⟩) | ((with_reducible refine gate_callee (f := 48) rfl ?_); refine goesL_ (some 31) rfl rfl Try.func48 (by kernel_rfl) rfl #[.int .u64 a2, .int .i64 0, .int .i64 (wrap64 (8 * t183))] rfl (by (try simp only [List.map_toArray, List.map_cons, List.map_nil]); first | done | rfl | (simp only [List.length_drop, List.length_take]; rfl)) ?_; (with_reducible refine (postbagref01_Field.calls a2 0 (wrap64 (8 * t183)) t187 _ A10.out).mono ?_); rintro e w' ⟨rfl, ⟨nd, rfl⟩⟩; refine ⟨_, rfl, ?_⟩))
    (try simp only [Act.put, List.setIfInBounds_toArray, List.set_cons_zero, List.set_cons_succ])
    go_cut [13] (fun v13 wc => ∃ (kq : Nat) (x13_10 : Int), v13 = .int .i64 x13_10 ∧ Aside0 (postbagref04_Stored.j0 kq (wrap64 (8 * t183)) t184 t185 t186 t187 t185 x13_10 = some r) ∧ Aside0 (kq ≤ k) ∧ Aside0 (Below w.heap.size w wc))
    case first =>
      have H := HC11.out
      clear HC11
      by_cases c12 : a0 ≥ 77
      · rw [if_pos c12] at H
        have c12b0 : decide (77 ≤ a0) = true := decide_eq_true c12
        clear c12
        (first | rw [c12b0] | (simp only [i64_w, i32_w]; rw [c12b0]) | skip)
        have H' := Aside0.mk H
        clear H
        go_wp2
        go_meet
        case rel => exact ⟨_, (wrap64 ((wrap64 (a0 - 77)) + 66)), (by first | rfl | (simp; done) | (simp [*]; done)), H', ⟨by first | omega | exact Nat.le_refl _⟩, ⟨by repeat (first | (with_reducible first | exact HB.out | apply below_alloc | apply pw_below_drewN | apply below_drew1) | exact HB.out)⟩⟩
      · rw [if_neg c12] at H
        have c12b0 : decide (77 ≤ a0) = false := decide_eq_false c12
        clear c12
        (first | rw [c12b0] | (simp only [i64_w, i32_w]; rw [c12b0]) | skip)
        have H' := Aside0.mk H
        clear H
        go_wp2
        go_meet
        case rel => exact ⟨_, (a0), (by first | rfl | (simp; done) | (simp [*]; done)), H', ⟨by first | omega | exact Nat.le_refl _⟩, ⟨by repeat (first | (with_reducible first | exact HB.out | apply below_alloc | apply pw_below_drewN | apply below_drew1) | exact HB.out)⟩⟩
    case rest =>
      clear HC11
      try clear c1
      try clear c2
      try clear p2
      try clear c4
      try clear c5
      try clear p6
      try clear c12
      try clear c12b0
      obtain ⟨kq, x13_10, rfl, HA, HJ10, HB⟩ := hcut
      cases kq with
      | zero => exact absurd HA.out (by simp [postbagref04_Stored.j0])
      | succ kj10 =>
        have H := HA.out
        clear HA
        simp only [postbagref04_Stored.j0] at H
        by_cases c13 : x13_10 = 69
        · rw [if_pos c13] at H
          have c13b0 : (x13_10 == 69) = true := beq_iff_eq.mpr c13
          have c13b1 : (x13_10 != 69) = false := bne_eq_false_iff_eq.mpr c13
          clear c13
          replace H := Option.bind_eq_some_iff.mp H
          obtain ⟨t188, A140, H⟩ := H
          replace H : (some t188) = some r := H
          have A14 := Aside0.mk A140
          clear A140
          obtain rfl := Option.some.inj H
          go_wp2_with (first | ((with_reducible refine gate_callee (f := 48) rfl ?_); refine goesL_ (some 84) rfl rfl Try.func48 (by kernel_rfl) rfl #[.int .u64 (IntKind.u64.wrap (t184 + t185)), .int .i64 0, .int .i64 (wrap64 (8 * t183))] rfl (by (try simp only [List.map_toArray, List.map_cons, List.map_nil]); first | done | rfl | (simp only [List.length_drop, List.length_take]; rfl)) ?_; (with_reducible refine (postbagref01_Field.calls (IntKind.u64.wrap (t184 + t185)) 0 (wrap64 (8 * t183)) t188 _ A14.out).mono ?_); rintro e w' ⟨rfl, ⟨nd, rfl⟩⟩; refine ⟨_, rfl, ?_⟩))
          go_ret
          exact ⟨by first | rfl | (simp [errW_none, errW_some] <;> rfl) | (simp [*, errW_none, errW_some] <;> rfl), by repeat (first | (with_reducible first | exact HB.out | apply below_alloc | apply pw_below_drewN | apply below_drew1) | exact HB.out)⟩
        · rw [if_neg c13] at H
          have c13b0 : (x13_10 == 69) = false := beq_eq_false_iff_ne.mpr c13
          have c13b1 : (x13_10 != 69) = true := bne_iff_ne.mpr c13
          by_cases c15 : x13_10 = 70
          · rw [if_pos c15] at H
            have c15b0 : (x13_10 == 70) = true := beq_iff_eq.mpr c15
            have c15b1 : (x13_10 != 70) = false := bne_eq_false_iff_eq.mpr c15
            clear c15
            replace H := Option.bind_eq_some_iff.mp H
            obtain ⟨t189, A160, H⟩ := H
            replace H : (some t189) = some r := H
            have A16 := Aside0.mk A160
            clear A160
            obtain rfl := Option.some.inj H
            go_wp2_with (first | ((with_reducible refine gate_callee (f := 48) rfl ?_); refine goesL_ (some 84) rfl rfl Try.func48 (by kernel_rfl) rfl #[.int .u64 (Go.bits .xor .u64 t184 t185), .int .i64 0, .int .i64 (wrap64 (8 * t183))] rfl (by (try simp only [List.map_toArray, List.map_cons, List.map_nil]); first | done | rfl | (simp only [List.length_drop, List.length_take]; rfl)) ?_; (with_reducible refine (postbagref01_Field.calls (Go.bits .xor .u64 t184 t185) 0 (wrap64 (8 * t183)) t189 _ A16.out).mono ?_); rintro e w' ⟨rfl, ⟨nd, rfl⟩⟩; refine ⟨_, rfl, ?_⟩))
            go_ret
            exact ⟨by first | rfl | (simp [errW_none, errW_some] <;> rfl) | (simp [*, errW_none, errW_some] <;> rfl), by repeat (first | (with_reducible first | exact HB.out | apply below_alloc | apply pw_below_drewN | apply below_drew1) | exact HB.out)⟩
          · rw [if_neg c15] at H
            have c15b0 : (x13_10 == 70) = false := beq_eq_false_iff_ne.mpr c15
            have c15b1 : (x13_10 != 70) = true := bne_iff_ne.mpr c15
            by_cases c17 : x13_10 = 71
            · rw [if_pos c17] at H
              have c17b0 : (x13_10 == 71) = true := beq_iff_eq.mpr c17
              have c17b1 : (x13_10 != 71) = false := bne_eq_false_iff_eq.mpr c17
              clear c17
              replace H := Option.bind_eq_some_iff.mp H
              obtain ⟨t190, A180, H⟩ := H
              replace H : (some t190) = some r := H
              have A18 := Aside0.mk A180
              clear A180
              obtain rfl := Option.some.inj H
              go_wp2_with (first | ((with_reducible refine gate_callee (f := 48) rfl ?_); refine goesL_ (some 84) rfl rfl Try.func48 (by kernel_rfl) rfl #[.int .u64 (Go.bits .and .u64 t184 t185), .int .i64 0, .int .i64 (wrap64 (8 * t183))] rfl (by (try simp only [List.map_toArray, List.map_cons, List.map_nil]); first | done | rfl | (simp only [List.length_drop, List.length_take]; rfl)) ?_; (with_reducible refine (postbagref01_Field.calls (Go.bits .and .u64 t184 t185) 0 (wrap64 (8 * t183)) t190 _ A18.out).mono ?_); rintro e w' ⟨rfl, ⟨nd, rfl⟩⟩; refine ⟨_, rfl, ?_⟩))
              go_ret
              exact ⟨by first | rfl | (simp [errW_none, errW_some] <;> rfl) | (simp [*, errW_none, errW_some] <;> rfl), by repeat (first | (with_reducible first | exact HB.out | apply below_alloc | apply pw_below_drewN | apply below_drew1) | exact HB.out)⟩
            · rw [if_neg c17] at H
              have c17b0 : (x13_10 == 71) = false := beq_eq_false_iff_ne.mpr c17
              have c17b1 : (x13_10 != 71) = true := bne_iff_ne.mpr c17
              by_cases c19 : x13_10 = 72
              · rw [if_pos c19] at H
                have c19b0 : (x13_10 == 72) = true := beq_iff_eq.mpr c19
                have c19b1 : (x13_10 != 72) = false := bne_eq_false_iff_eq.mpr c19
                clear c19
                replace H := Option.bind_eq_some_iff.mp H
                obtain ⟨t191, A200, H⟩ := H
                replace H : (some t191) = some r := H
                have A20 := Aside0.mk A200
                clear A200
                obtain rfl := Option.some.inj H
                go_wp2_with (first | ((with_reducible refine gate_callee (f := 48) rfl ?_); refine goesL_ (some 84) rfl rfl Try.func48 (by kernel_rfl) rfl #[.int .u64 (Go.bits .or .u64 t184 t185), .int .i64 0, .int .i64 (wrap64 (8 * t183))] rfl (by (try simp only [List.map_toArray, List.map_cons, List.map_nil]); first | done | rfl | (simp only [List.length_drop, List.length_take]; rfl)) ?_; (with_reducible refine (postbagref01_Field.calls (Go.bits .or .u64 t184 t185) 0 (wrap64 (8 * t183)) t191 _ A20.out).mono ?_); rintro e w' ⟨rfl, ⟨nd, rfl⟩⟩; refine ⟨_, rfl, ?_⟩))
                go_ret
                exact ⟨by first | rfl | (simp [errW_none, errW_some] <;> rfl) | (simp [*, errW_none, errW_some] <;> rfl), by repeat (first | (with_reducible first | exact HB.out | apply below_alloc | apply pw_below_drewN | apply below_drew1) | exact HB.out)⟩
              · rw [if_neg c19] at H
                have c19b0 : (x13_10 == 72) = false := beq_eq_false_iff_ne.mpr c19
                have c19b1 : (x13_10 != 72) = true := bne_iff_ne.mpr c19
                by_cases c21 : x13_10 = 73
                · rw [if_pos c21] at H
                  have c21b0 : (x13_10 == 73) = true := beq_iff_eq.mpr c21
                  have c21b1 : (x13_10 != 73) = false := bne_eq_false_iff_eq.mpr c21
                  clear c21
                  replace H := Option.bind_eq_some_iff.mp H
                  obtain ⟨t192, A220, H⟩ := H
                  replace H : (if t192 = true then ((postbagref01_Field.f t184 0 (wrap64 (8 * t183))).bind fun t193 => (some t193)) else ((postbagref01_Field.f t185 0 (wrap64 (8 * t183))).bind fun t194 => (some t194))) = some r := H
                  have A22 := Aside0.mk A220
                  clear A220
                  by_cases c23 : t192 = true
                  · subst c23
                    have H1 : ((postbagref01_Field.f t184 0 (wrap64 (8 * t183))).bind fun t193 => (some t193)) = some r := by rw [if_pos rfl] at H; exact H
                    clear H
                    have H := H1
                    clear H1
                    replace H := Option.bind_eq_some_iff.mp H
                    obtain ⟨t193, A240, H⟩ := H
                    replace H : (some t193) = some r := H
                    have A24 := Aside0.mk A240
                    clear A240
                    obtain rfl := Option.some.inj H
                    go_wp2_with (first | ((with_reducible refine gate_callee (f := 39) rfl ?_); refine goesL_ (some 64) rfl rfl Try.func39 (by kernel_rfl) rfl #[.int .u64 t184, .int .u64 t185] rfl (by (try simp only [List.map_toArray, List.map_cons, List.map_nil]); first | done | rfl | (simp only [List.length_drop, List.length_take]; rfl)) ?_; (with_reducible refine (postbagref04_less.calls t184 t185 true _ A22.out).mono ?_); rintro e w' ⟨rfl, ⟨nd, rfl⟩⟩; refine ⟨_, rfl, ?_⟩) | ((with_reducible refine gate_callee (f := 48) rfl ?_); refine goesL_ (some 84) rfl rfl Try.func48 (by kernel_rfl) rfl #[.int .u64 t184, .int .i64 0, .int .i64 (wrap64 (8 * t183))] rfl (by (try simp only [List.map_toArray, List.map_cons, List.map_nil]); first | done | rfl | (simp only [List.length_drop, List.length_take]; rfl)) ?_; (with_reducible refine (postbagref01_Field.calls t184 0 (wrap64 (8 * t183)) t193 _ A24.out).mono ?_); rintro e w' ⟨rfl, ⟨nd, rfl⟩⟩; refine ⟨_, rfl, ?_⟩))
                    go_ret
                    exact ⟨by first | rfl | (simp [errW_none, errW_some] <;> rfl) | (simp [*, errW_none, errW_some] <;> rfl), by repeat (first | (with_reducible first | exact HB.out | apply below_alloc | apply pw_below_drewN | apply below_drew1) | exact HB.out)⟩
                  · replace c23 := Bool.eq_false_iff.mpr c23
                    subst c23
                    have H1 : ((postbagref01_Field.f t185 0 (wrap64 (8 * t183))).bind fun t194 => (some t194)) = some r := by rw [if_neg (show ¬ (false = true) by decide)] at H; exact H
                    clear H
                    have H := H1
                    clear H1
                    replace H := Option.bind_eq_some_iff.mp H
                    obtain ⟨t194, A250, H⟩ := H
                    replace H : (some t194) = some r := H
                    have A25 := Aside0.mk A250
                    clear A250
                    obtain rfl := Option.some.inj H
                    go_wp2_with (first | ((with_reducible refine gate_callee (f := 39) rfl ?_); refine goesL_ (some 64) rfl rfl Try.func39 (by kernel_rfl) rfl #[.int .u64 t184, .int .u64 t185] rfl (by (try simp only [List.map_toArray, List.map_cons, List.map_nil]); first | done | rfl | (simp only [List.length_drop, List.length_take]; rfl)) ?_; (with_reducible refine (postbagref04_less.calls t184 t185 false _ A22.out).mono ?_); rintro e w' ⟨rfl, ⟨nd, rfl⟩⟩; refine ⟨_, rfl, ?_⟩) | ((with_reducible refine gate_callee (f := 48) rfl ?_); refine goesL_ (some 84) rfl rfl Try.func48 (by kernel_rfl) rfl #[.int .u64 t185, .int .i64 0, .int .i64 (wrap64 (8 * t183))] rfl (by (try simp only [List.map_toArray, List.map_cons, List.map_nil]); first | done | rfl | (simp only [List.length_drop, List.length_take]; rfl)) ?_; (with_reducible refine (postbagref01_Field.calls t185 0 (wrap64 (8 * t183)) t194 _ A25.out).mono ?_); rintro e w' ⟨rfl, ⟨nd, rfl⟩⟩; refine ⟨_, rfl, ?_⟩))
                    go_ret
                    exact ⟨by first | rfl | (simp [errW_none, errW_some] <;> rfl) | (simp [*, errW_none, errW_some] <;> rfl), by repeat (first | (with_reducible first | exact HB.out | apply below_alloc | apply pw_below_drewN | apply below_drew1) | exact HB.out)⟩
                · rw [if_neg c21] at H
                  have c21b0 : (x13_10 == 73) = false := beq_eq_false_iff_ne.mpr c21
                  have c21b1 : (x13_10 != 73) = true := bne_iff_ne.mpr c21
                  by_cases c26 : x13_10 = 74
                  · rw [if_pos c26] at H
                    have c26b0 : (x13_10 == 74) = true := beq_iff_eq.mpr c26
                    have c26b1 : (x13_10 != 74) = false := bne_eq_false_iff_eq.mpr c26
                    clear c26
                    replace H := Option.bind_eq_some_iff.mp H
                    obtain ⟨t195, A270, H⟩ := H
                    replace H : (if t195 = true then ((postbagref01_Field.f t184 0 (wrap64 (8 * t183))).bind fun t196 => (some t196)) else ((postbagref01_Field.f t185 0 (wrap64 (8 * t183))).bind fun t197 => (some t197))) = some r := H
                    have A27 := Aside0.mk A270
                    clear A270
                    by_cases c28 : t195 = true
                    · subst c28
                      have H1 : ((postbagref01_Field.f t184 0 (wrap64 (8 * t183))).bind fun t196 => (some t196)) = some r := by rw [if_pos rfl] at H; exact H
                      clear H
                      have H := H1
                      clear H1
                      replace H := Option.bind_eq_some_iff.mp H
                      obtain ⟨t196, A290, H⟩ := H
                      replace H : (some t196) = some r := H
                      have A29 := Aside0.mk A290
                      clear A290
                      obtain rfl := Option.some.inj H
                      go_wp2_with (first | ((with_reducible refine gate_callee (f := 39) rfl ?_); refine goesL_ (some 70) rfl rfl Try.func39 (by kernel_rfl) rfl #[.int .u64 t185, .int .u64 t184] rfl (by (try simp only [List.map_toArray, List.map_cons, List.map_nil]); first | done | rfl | (simp only [List.length_drop, List.length_take]; rfl)) ?_; (with_reducible refine (postbagref04_less.calls t185 t184 true _ A27.out).mono ?_); rintro e w' ⟨rfl, ⟨nd, rfl⟩⟩; refine ⟨_, rfl, ?_⟩) | ((with_reducible refine gate_callee (f := 48) rfl ?_); refine goesL_ (some 84) rfl rfl Try.func48 (by kernel_rfl) rfl #[.int .u64 t184, .int .i64 0, .int .i64 (wrap64 (8 * t183))] rfl (by (try simp only [List.map_toArray, List.map_cons, List.map_nil]); first | done | rfl | (simp only [List.length_drop, List.length_take]; rfl)) ?_; (with_reducible refine (postbagref01_Field.calls t184 0 (wrap64 (8 * t183)) t196 _ A29.out).mono ?_); rintro e w' ⟨rfl, ⟨nd, rfl⟩⟩; refine ⟨_, rfl, ?_⟩))
                      go_ret
                      exact ⟨by first | rfl | (simp [errW_none, errW_some] <;> rfl) | (simp [*, errW_none, errW_some] <;> rfl), by repeat (first | (with_reducible first | exact HB.out | apply below_alloc | apply pw_below_drewN | apply below_drew1) | exact HB.out)⟩
                    · replace c28 := Bool.eq_false_iff.mpr c28
                      subst c28
                      have H1 : ((postbagref01_Field.f t185 0 (wrap64 (8 * t183))).bind fun t197 => (some t197)) = some r := by rw [if_neg (show ¬ (false = true) by decide)] at H; exact H
                      clear H
                      have H := H1
                      clear H1
                      replace H := Option.bind_eq_some_iff.mp H
                      obtain ⟨t197, A300, H⟩ := H
                      replace H : (some t197) = some r := H
                      have A30 := Aside0.mk A300
                      clear A300
                      obtain rfl := Option.some.inj H
                      go_wp2_with (first | ((with_reducible refine gate_callee (f := 39) rfl ?_); refine goesL_ (some 70) rfl rfl Try.func39 (by kernel_rfl) rfl #[.int .u64 t185, .int .u64 t184] rfl (by (try simp only [List.map_toArray, List.map_cons, List.map_nil]); first | done | rfl | (simp only [List.length_drop, List.length_take]; rfl)) ?_; (with_reducible refine (postbagref04_less.calls t185 t184 false _ A27.out).mono ?_); rintro e w' ⟨rfl, ⟨nd, rfl⟩⟩; refine ⟨_, rfl, ?_⟩) | ((with_reducible refine gate_callee (f := 48) rfl ?_); refine goesL_ (some 84) rfl rfl Try.func48 (by kernel_rfl) rfl #[.int .u64 t185, .int .i64 0, .int .i64 (wrap64 (8 * t183))] rfl (by (try simp only [List.map_toArray, List.map_cons, List.map_nil]); first | done | rfl | (simp only [List.length_drop, List.length_take]; rfl)) ?_; (with_reducible refine (postbagref01_Field.calls t185 0 (wrap64 (8 * t183)) t197 _ A30.out).mono ?_); rintro e w' ⟨rfl, ⟨nd, rfl⟩⟩; refine ⟨_, rfl, ?_⟩))
                      go_ret
                      exact ⟨by first | rfl | (simp [errW_none, errW_some] <;> rfl) | (simp [*, errW_none, errW_some] <;> rfl), by repeat (first | (with_reducible first | exact HB.out | apply below_alloc | apply pw_below_drewN | apply below_drew1) | exact HB.out)⟩
                  · rw [if_neg c26] at H
                    have c26b0 : (x13_10 == 74) = false := beq_eq_false_iff_ne.mpr c26
                    have c26b1 : (x13_10 != 74) = true := bne_iff_ne.mpr c26
                    by_cases c31 : x13_10 = 75
                    · rw [if_pos c31] at H
                      have c31b0 : (x13_10 == 75) = true := beq_iff_eq.mpr c31
                      have c31b1 : (x13_10 != 75) = false := bne_eq_false_iff_eq.mpr c31
                      clear c31
                      obtain ⟨ji32, hji32⟩ : ∃ j_ : Int, (mn t186 t187) = j_ := ⟨_, rfl⟩
                      replace H : ((postbagref01_Field.f (ji32) 0 (wrap64 (8 * t183))).bind fun t198 => (some t198)) = some r := by first | (rw [hji32] at H; exact H) | (simp only [hji32] at H ⊢; exact H)
                      have hji32_ : (if t187 < t186 then t187 else t186) = ji32 := hji32
                      replace H := Option.bind_eq_some_iff.mp H
                      obtain ⟨t198, A330, H⟩ := H
                      replace H : (some t198) = some r := H
                      have A33 := Aside0.mk A330
                      clear A330
                      obtain rfl := Option.some.inj H
                      go_wp2_with (first | ((with_reducible refine gate_callee (f := 48) rfl ?_); refine goesL_ (some 84) rfl rfl Try.func48 (by kernel_rfl) rfl #[.int .u64 ji32, .int .i64 0, .int .i64 (wrap64 (8 * t183))] rfl (by (try simp only [List.map_toArray, List.map_cons, List.map_nil]); first | done | (simp only [hji32]; rfl) | rfl | (simp only [List.length_drop, List.length_take]; rfl)) ?_; (with_reducible refine (postbagref01_Field.calls ji32 0 (wrap64 (8 * t183)) t198 _ A33.out).mono ?_); rintro e w' ⟨rfl, ⟨nd, rfl⟩⟩; refine ⟨_, rfl, ?_⟩))
                      go_ret
                      exact ⟨by first | rfl | (simp [errW_none, errW_some] <;> rfl) | (simp only [← hji32]; first | rfl | (simp [errW_none, errW_some] <;> rfl)) | (simp [*, errW_none, errW_some] <;> rfl), by repeat (first | (with_reducible first | exact HB.out | apply below_alloc | apply pw_below_drewN | apply below_drew1) | exact HB.out)⟩
                    · rw [if_neg c31] at H
                      have c31b0 : (x13_10 == 75) = false := beq_eq_false_iff_ne.mpr c31
                      have c31b1 : (x13_10 != 75) = true := bne_iff_ne.mpr c31
                      by_cases c34 : x13_10 = 76
                      · rw [if_pos c34] at H
                        have c34b0 : (x13_10 == 76) = true := beq_iff_eq.mpr c34
                        have c34b1 : (x13_10 != 76) = false := bne_eq_false_iff_eq.mpr c34
                        clear c34
                        obtain ⟨ji35, hji35⟩ : ∃ j_ : Int, (mx t186 t187) = j_ := ⟨_, rfl⟩
                        replace H : ((postbagref01_Field.f (ji35) 0 (wrap64 (8 * t183))).bind fun t199 => (some t199)) = some r := by first | (rw [hji35] at H; exact H) | (simp only [hji35] at H ⊢; exact H)
                        have hji35_ : (if t186 < t187 then t187 else t186) = ji35 := hji35
                        replace H := Option.bind_eq_some_iff.mp H
                        obtain ⟨t199, A360, H⟩ := H
                        replace H : (some t199) = some r := H
                        have A36 := Aside0.mk A360
                        clear A360
                        obtain rfl := Option.some.inj H
                        go_wp2_with (first | ((with_reducible refine gate_callee (f := 48) rfl ?_); refine goesL_ (some 84) rfl rfl Try.func48 (by kernel_rfl) rfl #[.int .u64 ji35, .int .i64 0, .int .i64 (wrap64 (8 * t183))] rfl (by (try simp only [List.map_toArray, List.map_cons, List.map_nil]); first | done | (simp only [hji35]; rfl) | rfl | (simp only [List.length_drop, List.length_take]; rfl)) ?_; (with_reducible refine (postbagref01_Field.calls ji35 0 (wrap64 (8 * t183)) t199 _ A36.out).mono ?_); rintro e w' ⟨rfl, ⟨nd, rfl⟩⟩; refine ⟨_, rfl, ?_⟩))
                        go_ret
                        exact ⟨by first | rfl | (simp [errW_none, errW_some] <;> rfl) | (simp only [← hji35]; first | rfl | (simp [errW_none, errW_some] <;> rfl)) | (simp [*, errW_none, errW_some] <;> rfl), by repeat (first | (with_reducible first | exact HB.out | apply below_alloc | apply pw_below_drewN | apply below_drew1) | exact HB.out)⟩
                      · rw [if_neg c34] at H
                        have c34b0 : (x13_10 == 76) = false := beq_eq_false_iff_ne.mpr c34
                        have c34b1 : (x13_10 != 76) = true := bne_iff_ne.mpr c34
                        replace H := Option.bind_eq_some_iff.mp H
                        obtain ⟨t200, A370, H⟩ := H
                        replace H : (some t200) = some r := H
                        have A37 := Aside0.mk A370
                        clear A370
                        obtain rfl := Option.some.inj H
                        go_wp2_with (first | ((with_reducible refine gate_callee (f := 48) rfl ?_); refine goesL_ (some 84) rfl rfl Try.func48 (by kernel_rfl) rfl #[.int .u64 t185, .int .i64 0, .int .i64 (wrap64 (8 * t183))] rfl (by (try simp only [List.map_toArray, List.map_cons, List.map_nil]); first | done | rfl | (simp only [List.length_drop, List.length_take]; rfl)) ?_; (with_reducible refine (postbagref01_Field.calls t185 0 (wrap64 (8 * t183)) t200 _ A37.out).mono ?_); rintro e w' ⟨rfl, ⟨nd, rfl⟩⟩; refine ⟨_, rfl, ?_⟩))
                        go_ret
                        exact ⟨by first | rfl | (simp [errW_none, errW_some] <;> rfl) | (simp [*, errW_none, errW_some] <;> rfl), by repeat (first | (with_reducible first | exact HB.out | apply below_alloc | apply pw_below_drewN | apply below_drew1) | exact HB.out)⟩
  · replace c5 := Bool.eq_false_iff.mpr c5
    subst c5
    have H1 : (some 0) = some r := by rw [if_neg (show ¬ (false = true) by decide)] at H; exact H
    clear H
    have H := H1
    clear H1
    obtain rfl := Option.some.inj H
    go_enter Try.func26, Try.ntmps26
    go_wp2_with (first | ((with_reducible refine gate_callee (f := 50) rfl ?_); refine goesL_ (some 15) rfl rfl Try.func50 (by kernel_rfl) rfl #[.int .i64 a0] rfl (by (try simp only [List.map_toArray, List.map_cons, List.map_nil]); first | done | rfl | (simp only [List.length_drop, List.length_take]; rfl)) ?_; (with_reducible refine (postbagref02_Stores.calls a0 false _ A4.out).mono ?_); rintro e w' ⟨rfl, ⟨nd, rfl⟩⟩; refine ⟨_, rfl, ?_⟩))
    go_ret
    exact ⟨by first | rfl | (simp [errW_none, errW_some] <;> rfl) | (simp [*, errW_none, errW_some] <;> rfl), by repeat (first | (with_reducible first | exact HB.out | apply below_alloc | apply pw_below_drewN | apply below_drew1) | exact HB.out)⟩

/-! ### postbaglaw04_AluLoads: function 9 -/
def postbaglaw04_AluLoads.f (k : Nat) (a0 : Int) (a1 : Int) (a2 : Int) (a3 : Int) : Option (Bool) := (alu_Loaded.f k a0 a1).bind fun t201 => ((postbagref04_Loaded.f k a0 a1).bind fun t202 => (if t201 = t202 then ((alu_Stored.f k a0 a2 a3).bind fun t203 => ((postbagref04_Stored.f k a0 a2 a3).bind fun t204 => (if t203 = t204 then ((postbaglaw04_lives.f k).bind fun t205 => (some t205)) else (some false)))) else (some false)))
theorem postbaglaw04_AluLoads.mono : ∀ a0 a1 a2 a3 k, LeO (postbaglaw04_AluLoads.f k a0 a1 a2 a3) (postbaglaw04_AluLoads.f (k + 1) a0 a1 a2 a3) := by
  intro a0 a1 a2 a3 k
  unfold postbaglaw04_AluLoads.f
  repeat' first
      | (with_reducible exact alu_Loaded.mono _ _ _)
      | (with_reducible exact alu_Stored.mono _ _ _ _)
      | (with_reducible exact postbaglaw04_lives.mono _)
      | (with_reducible exact postbagref04_Loaded.mono _ _ _)
      | (with_reducible exact postbagref04_Stored.mono _ _ _ _)
      | (with_reducible exact LeO.refl _)
      | (with_reducible exact LeO.none _)
      | (with_reducible refine LeO.ite ?_ ?_)
      | (with_reducible refine LeO.bind ?_ (fun _ => ?_))
      | exact alu_Loaded.mono _ _ _
      | exact alu_Stored.mono _ _ _ _
      | exact postbaglaw04_lives.mono _
      | exact postbagref04_Loaded.mono _ _ _
      | exact postbagref04_Stored.mono _ _ _ _
      | exact LeO.none _
      | refine LeO.ite ?_ ?_
      | refine LeO.bind ?_ (fun _ => ?_)
set_option maxHeartbeats 8000000 in
set_option maxRecDepth 100000 in
theorem postbaglaw04_AluLoads.calls (k : Nat) (a0 : Int) (a1 : Int) (a2 : Int) (a3 : Int) (w : World) (h : postbaglaw04_AluLoads.f k a0 a1 a2 a3 = some true) :
    Calls Try.prog 9 #[.int .i64 a0, .int .u64 a1, .int .u64 a2, .int .u64 a3] w fun e w' => e = .returned (.bool true) ∧ Below w.heap.size w w' := by
  have HB := Aside0.mk (Below.refl w.heap.size w)
  have H : ((alu_Loaded.f k a0 a1).bind fun t201 => ((postbagref04_Loaded.f k a0 a1).bind fun t202 => (if t201 = t202 then ((alu_Stored.f k a0 a2 a3).bind fun t203 => ((postbagref04_Stored.f k a0 a2 a3).bind fun t204 => (if t203 = t204 then ((postbaglaw04_lives.f k).bind fun t205 => (some t205)) else (some false)))) else (some false)))) = some true := h
  clear h
  replace H := Option.bind_eq_some_iff.mp H
  obtain ⟨t201, A50, H⟩ := H
  replace H : ((postbagref04_Loaded.f k a0 a1).bind fun t202 => (if t201 = t202 then ((alu_Stored.f k a0 a2 a3).bind fun t203 => ((postbagref04_Stored.f k a0 a2 a3).bind fun t204 => (if t203 = t204 then ((postbaglaw04_lives.f k).bind fun t205 => (some t205)) else (some false)))) else (some false))) = some true := H
  have A5 := Aside0.mk A50
  clear A50
  replace H := Option.bind_eq_some_iff.mp H
  obtain ⟨t202, A60, H⟩ := H
  replace H : (if t201 = t202 then ((alu_Stored.f k a0 a2 a3).bind fun t203 => ((postbagref04_Stored.f k a0 a2 a3).bind fun t204 => (if t203 = t204 then ((postbaglaw04_lives.f k).bind fun t205 => (some t205)) else (some false)))) else (some false)) = some true := H
  have A6 := Aside0.mk A60
  clear A60
  by_cases c7 : t201 = t202
  · rw [if_pos c7] at H
    have c7b0 : (t201 == t202) = true := beq_iff_eq.mpr c7
    have c7b1 : (t201 != t202) = false := bne_eq_false_iff_eq.mpr c7
    clear c7
    replace H := Option.bind_eq_some_iff.mp H
    obtain ⟨t203, A80, H⟩ := H
    replace H : ((postbagref04_Stored.f k a0 a2 a3).bind fun t204 => (if t203 = t204 then ((postbaglaw04_lives.f k).bind fun t205 => (some t205)) else (some false))) = some true := H
    have A8 := Aside0.mk A80
    clear A80
    replace H := Option.bind_eq_some_iff.mp H
    obtain ⟨t204, A90, H⟩ := H
    replace H : (if t203 = t204 then ((postbaglaw04_lives.f k).bind fun t205 => (some t205)) else (some false)) = some true := H
    have A9 := Aside0.mk A90
    clear A90
    by_cases c10 : t203 = t204
    · rw [if_pos c10] at H
      have c10b0 : (t203 == t204) = true := beq_iff_eq.mpr c10
      have c10b1 : (t203 != t204) = false := bne_eq_false_iff_eq.mpr c10
      clear c10
      replace H := Option.bind_eq_some_iff.mp H
      obtain ⟨t205, A110, H⟩ := H
      replace H : (some t205) = some true := H
      have A11 := Aside0.mk A110
      clear A110
      obtain rfl := Option.some.inj H
      go_enter Try.func9, Try.ntmps9
      go_wp2_with (first | ((with_reducible refine gate_callee (f := 24) rfl ?_); refine goesL_ (some 11) rfl rfl Try.func24 (by kernel_rfl) rfl #[.int .i64 a0, .int .u64 a1] rfl (by (try simp only [List.map_toArray, List.map_cons, List.map_nil]); first | done | rfl | (simp only [List.length_drop, List.length_take]; rfl)) ?_; (with_reducible refine (alu_Loaded.calls k a0 a1 t201 _ A5.out).mono ?_); rintro e w' ⟨rfl, ⟨nd, rfl⟩⟩; refine ⟨_, rfl, ?_⟩) | ((with_reducible refine gate_callee (f := 25) rfl ?_); refine goesL_ (some 14) rfl rfl Try.func25 (by kernel_rfl) rfl #[.int .i64 a0, .int .u64 a1] rfl (by (try simp only [List.map_toArray, List.map_cons, List.map_nil]); first | done | rfl | (simp only [List.length_drop, List.length_take]; rfl)) ?_; (with_reducible refine (postbagref04_Loaded.calls k a0 a1 t202 _ A6.out).mono ?_); rintro e w' ⟨rfl, ⟨nd, rfl⟩⟩; refine ⟨_, rfl, ?_⟩) | (go_at_call 23; (with_reducible refine (alu_Stored.calls k a0 a2 a3 t203 _ A8.out).mono ?_); rintro e w12 ⟨rfl, hb⟩; have n0_ := Aside0.mk (below_step (by repeat (first | (with_reducible first | exact HB.out | apply below_alloc | apply pw_below_drewN | apply below_drew1) | exact HB.out)) hb); clear HB; have HB := n0_; clear n0_; (try clear hb); (try clear hb2); (try clear hk); (try clear hi)) | (go_at_call 26; (with_reducible refine (postbagref04_Stored.calls k a0 a2 a3 t204 _ A9.out).mono ?_); rintro e w13 ⟨rfl, hb⟩; have n0_ := Aside0.mk (below_step (by repeat (first | (with_reducible first | exact HB.out | apply below_alloc | apply pw_below_drewN | apply below_drew1) | exact HB.out)) hb); clear HB; have HB := n0_; clear n0_; (try clear hb); (try clear hb2); (try clear hk); (try clear hi)) | (go_at_call 12; (with_reducible refine (postbaglaw04_lives.calls k  true _ A11.out).mono ?_); rintro e w14 ⟨rfl, hb⟩; have n0_ := Aside0.mk (below_step (by repeat (first | (with_reducible first | exact HB.out | apply below_alloc | apply pw_below_drewN | apply below_drew1) | exact HB.out)) hb); clear HB; have HB := n0_; clear n0_; (try clear hb); (try clear hb2); (try clear hk); (try clear hi)))
      go_ret
      exact ⟨by first | rfl | (simp [errW_none, errW_some] <;> rfl) | (simp [*, errW_none, errW_some] <;> rfl), by repeat (first | (with_reducible first | exact HB.out | apply below_alloc | apply pw_below_drewN | apply below_drew1) | exact HB.out)⟩
    · rw [if_neg c10] at H
      have c10b0 : (t203 == t204) = false := beq_eq_false_iff_ne.mpr c10
      have c10b1 : (t203 != t204) = true := bne_iff_ne.mpr c10
      exact absurd H (by simp)
  · rw [if_neg c7] at H
    have c7b0 : (t201 == t202) = false := beq_eq_false_iff_ne.mpr c7
    have c7b1 : (t201 != t202) = true := bne_iff_ne.mpr c7
    exact absurd H (by simp)

/-- THE ONE PURE STATEMENT of postbaglaw04_AluLoads: yours. -/
def postbaglaw04_AluLoads.Pure : Prop := ∀ (a0 : Int) (a1 : Int) (a2 : Int) (a3 : Int), (Lit.int .i64 a0).wf = true → (Lit.int .u64 a1).wf = true → (Lit.int .u64 a2).wf = true → (Lit.int .u64 a3).wf = true → ∃ k, postbaglaw04_AluLoads.f k a0 a1 a2 a3 = some true
theorem postbaglaw04_AluLoads.walk (P : postbaglaw04_AluLoads.Pure) (a0 : Int) (a1 : Int) (a2 : Int) (a3 : Int) (w : World) (w0 : (Lit.int .i64 a0).wf = true) (w1 : (Lit.int .u64 a1).wf = true) (w2 : (Lit.int .u64 a2).wf = true) (w3 : (Lit.int .u64 a3).wf = true) :
    Calls Try.prog 9 #[.int .i64 a0, .int .u64 a1, .int .u64 a2, .int .u64 a3] w fun e w' => e = .returned (.bool true) ∧ Below w.heap.size w w' := by
  obtain ⟨k, h⟩ := P a0 a1 a2 a3 w0 w1 w2 w3
  refine (postbaglaw04_AluLoads.calls k a0 a1 a2 a3 w h).mono ?_
  rintro e w' ⟨rfl, hd⟩
  exact ⟨rfl, hd⟩

end Go.Proofs.Ytjdidadafccepaa.PAluLoads
