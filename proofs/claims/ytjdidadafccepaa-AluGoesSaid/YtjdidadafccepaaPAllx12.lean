/- DERIVED. The contracts of the Go functions that one law reaches: each call returns what the plain function beside it says, under that theorem's own premises. Written by a program (hp.py) over the kit's printed words. -/
import Derived.Test.YtjdidadafccepaaPAllx0
import Derived.Test.YtjdidadafccepaaPAllx5
import Derived.Test.YtjdidadafccepaaPAllx6
import Derived.Test.YtjdidadafccepaaPAllx7
import Derived.Test.YtjdidadafccepaaPAllx9
import Derived.Test.YtjdidadafccepaaPAllx10
import Derived.Test.YtjdidadafccepaaPAllx11
namespace Go.Proofs.Ytjdidadafccepaa.PAll
open Go.RowKit Go.Proofs.YtjdidadafccepaaW.PrintWords Go.Proofs.YtjdidadafccepaaW.PrintLast Go.Proofs.YtjdidadafccepaaW.PrintMore Go.Proofs.Ytjdidadafccepaa.M
attribute [local go_sem] max2_int min2_int max_two min_two max_three min_three max_four min_four   -- for this text's walks alone
set_option linter.unusedVariables false
set_option linter.unusedSimpArgs false

/-! ### postbagref01_High0: function 75 -/
def postbagref01_High0.j0 : Nat → Int → Int → Bool → Int → Bool → Option (Int)
  | 0, _, _, _, _, _ => none
  | k + 1, x0, x1, x3, x9, x18 => if x18 = true then (if x3 = true then ((postbagref01_Bit.f x1 63).bind fun t198 => (if t198 = 1 then (some (IntKind.u64.wrap ((IntKind.u64.wrap (x9 - x1)) - x0))) else (some (IntKind.u64.wrap (x9 - x1))))) else (some (IntKind.u64.wrap (x9 - x1)))) else (if x3 = true then ((postbagref01_Bit.f x1 63).bind fun t199 => (if t199 = 1 then (some (IntKind.u64.wrap (x9 - x0))) else (some x9))) else (some x9))
def postbagref01_High0.f (k : Nat) (a0 : Int) (a1 : Int) (a2 : Bool) (a3 : Bool) : Option (Int) := (postbagref01_high.f a0 a1).bind fun t196 => (if a2 = true then ((postbagref01_Bit.f a0 63).bind fun t197 => (postbagref01_High0.j0 k a0 a1 a3 t196 (t197 == 1))) else (postbagref01_High0.j0 k a0 a1 a3 t196 false))
theorem postbagref01_High0.mono_l : ∀ k, (∀ y0 y1 y2 y3 y4, LeO (postbagref01_High0.j0 k y0 y1 y2 y3 y4) (postbagref01_High0.j0 (k + 1) y0 y1 y2 y3 y4))
  | 0 => fun _ _ _ _ _ r h => by simp [postbagref01_High0.j0] at h
  | k + 1 => by
    have ih0 := postbagref01_High0.mono_l k
    · intro y0 y1 y2 y3 y4
      unfold postbagref01_High0.j0
      repeat' first
      | (with_reducible exact ih0 _ _ _ _ _)
      | (with_reducible exact LeO.refl _)
      | (with_reducible exact LeO.none _)
      | (with_reducible refine LeO.ite ?_ ?_)
      | (with_reducible refine LeO.bind ?_ (fun _ => ?_))
      | exact ih0 _ _ _ _ _
      | exact LeO.none _
      | refine LeO.ite ?_ ?_
      | refine LeO.bind ?_ (fun _ => ?_)
theorem postbagref01_High0.mono : ∀ a0 a1 a2 a3 k, LeO (postbagref01_High0.f k a0 a1 a2 a3) (postbagref01_High0.f (k + 1) a0 a1 a2 a3) := by
  intro a0 a1 a2 a3 k
  have ih0 := postbagref01_High0.mono_l k
  unfold postbagref01_High0.f
  repeat' first
      | (with_reducible exact ih0 _ _ _ _ _)
      | (with_reducible exact LeO.refl _)
      | (with_reducible exact LeO.none _)
      | (with_reducible refine LeO.ite ?_ ?_)
      | (with_reducible refine LeO.bind ?_ (fun _ => ?_))
      | exact ih0 _ _ _ _ _
      | exact LeO.none _
      | refine LeO.ite ?_ ?_
      | refine LeO.bind ?_ (fun _ => ?_)
set_option maxHeartbeats 8000000 in
set_option maxRecDepth 100000 in
theorem postbagref01_High0.calls (k : Nat) (a0 : Int) (a1 : Int) (a2 : Bool) (a3 : Bool) (r : Int) (w : World) (h : postbagref01_High0.f k a0 a1 a2 a3 = some r) :
    Calls Try.prog 75 #[.int .u64 a0, .int .u64 a1, .bool a2, .bool a3] w fun e w' => e = .returned (.int .u64 r) ∧ Drawn0 w w' := by
  have H : ((postbagref01_high.f a0 a1).bind fun t196 => (if a2 = true then ((postbagref01_Bit.f a0 63).bind fun t197 => (postbagref01_High0.j0 k a0 a1 a3 t196 (t197 == 1))) else (postbagref01_High0.j0 k a0 a1 a3 t196 false))) = some r := h
  clear h
  replace H := Option.bind_eq_some_iff.mp H
  obtain ⟨t196, A50, H⟩ := H
  replace H : (if a2 = true then ((postbagref01_Bit.f a0 63).bind fun t197 => (postbagref01_High0.j0 k a0 a1 a3 t196 (t197 == 1))) else (postbagref01_High0.j0 k a0 a1 a3 t196 false)) = some r := H
  have A5 := Aside0.mk A50
  clear A50
  have HC6 := Aside0.mk H
  clear H
  go_enter Try.func75, Try.ntmps75
  go_upto_region 2 with (first | ((with_reducible refine gate_callee (f := 85) rfl ?_); refine goesL_ (some 12) rfl rfl Try.func85 (by kernel_rfl) rfl #[.int .u64 a0, .int .u64 a1] rfl (by (try simp only [List.map_toArray, List.map_cons, List.map_nil]); first | done | rfl | (simp only [List.length_drop, List.length_take]; rfl)) ?_; (with_reducible refine (postbagref01_high.calls a0 a1 t196 _ A5.out).mono ?_); rintro e w' ⟨rfl, ⟨nd, rfl⟩⟩; refine ⟨_, rfl, ?_⟩))
  (try simp only [Act.put, List.setIfInBounds_toArray, List.set_cons_zero, List.set_cons_succ])
  go_cut [18] (fun v18 wc => ∃ (kq : Nat) (x18_5 : Bool), v18 = .bool x18_5 ∧ Aside0 (postbagref01_High0.j0 kq a0 a1 a3 t196 x18_5 = some r) ∧ Aside0 (kq ≤ k) ∧ Drawn0 w wc)
  case first =>
    have H := HC6.out
    clear HC6
    by_cases c7 : a2 = true
    · subst c7
      have H1 : ((postbagref01_Bit.f a0 63).bind fun t197 => (postbagref01_High0.j0 k a0 a1 a3 t196 (t197 == 1))) = some r := by rw [if_pos rfl] at H; exact H
      clear H
      have H := H1
      clear H1
      replace H := Option.bind_eq_some_iff.mp H
      obtain ⟨t197, A80, H⟩ := H
      replace H : (postbagref01_High0.j0 k a0 a1 a3 t196 (t197 == 1)) = some r := H
      have A8 := Aside0.mk A80
      clear A80
      have H' := Aside0.mk H
      clear H
      go_wp2_with (first | (go_at_call 69; (with_reducible refine (postbagref01_Bit.calls a0 63 t197 _ A8.out).mono ?_); rintro e w' ⟨rfl, ⟨nd, rfl⟩⟩))
      go_meet
      case rel => exact ⟨_, ((t197 == 1)), (by first | rfl | (simp; done) | (simp [*]; done)), H', ⟨by first | omega | exact Nat.le_refl _⟩, by repeat (first | exact Drawn0.refl _ | apply Drawn0.step)⟩
    · replace c7 := Bool.eq_false_iff.mpr c7
      subst c7
      have H1 : (postbagref01_High0.j0 k a0 a1 a3 t196 false) = some r := by rw [if_neg (show ¬ (false = true) by decide)] at H; exact H
      clear H
      have H := H1
      clear H1
      have H' := Aside0.mk H
      clear H
      go_wp2
      go_meet
      case rel => exact ⟨_, (false), (by first | rfl | (simp; done) | (simp [*]; done)), H', ⟨by first | omega | exact Nat.le_refl _⟩, by repeat (first | exact Drawn0.refl _ | apply Drawn0.step)⟩
  case rest =>
    clear HC6
    try clear p2
    try clear c7
    try clear c8
    obtain ⟨kq, x18_5, rfl, HA, HJ5, ⟨mc5, rfl⟩⟩ := hcut
    cases kq with
    | zero => exact absurd HA.out (by simp [postbagref01_High0.j0])
    | succ kj5 =>
      have H := HA.out
      clear HA
      simp only [postbagref01_High0.j0] at H
      by_cases c9 : x18_5 = true
      · subst c9
        have H1 : (if a3 = true then ((postbagref01_Bit.f a1 63).bind fun t198 => (if t198 = 1 then (some (IntKind.u64.wrap ((IntKind.u64.wrap (t196 - a1)) - a0))) else (some (IntKind.u64.wrap (t196 - a1))))) else (some (IntKind.u64.wrap (t196 - a1)))) = some r := by rw [if_pos rfl] at H; exact H
        clear H
        have H := H1
        clear H1
        by_cases c10 : a3 = true
        · subst c10
          have H1 : ((postbagref01_Bit.f a1 63).bind fun t198 => (if t198 = 1 then (some (IntKind.u64.wrap ((IntKind.u64.wrap (t196 - a1)) - a0))) else (some (IntKind.u64.wrap (t196 - a1))))) = some r := by rw [if_pos rfl] at H; exact H
          clear H
          have H := H1
          clear H1
          replace H := Option.bind_eq_some_iff.mp H
          obtain ⟨t198, A110, H⟩ := H
          replace H : (if t198 = 1 then (some (IntKind.u64.wrap ((IntKind.u64.wrap (t196 - a1)) - a0))) else (some (IntKind.u64.wrap (t196 - a1)))) = some r := H
          have A11 := Aside0.mk A110
          clear A110
          by_cases c12 : t198 = 1
          · rw [if_pos c12] at H
            have c12b0 : (t198 == 1) = true := beq_iff_eq.mpr c12
            have c12b1 : (t198 != 1) = false := bne_eq_false_iff_eq.mpr c12
            clear c12
            obtain rfl := Option.some.inj H
            go_wp2_with (first | (go_at_call 69; (with_reducible refine (postbagref01_Bit.calls a1 63 t198 _ A11.out).mono ?_); rintro e w' ⟨rfl, ⟨nd, rfl⟩⟩))
            go_ret
            exact ⟨by first | rfl | (simp; done) | (simp [*]; done), by repeat (first | exact Drawn0.refl _ | apply Drawn0.step)⟩
          · rw [if_neg c12] at H
            have c12b0 : (t198 == 1) = false := beq_eq_false_iff_ne.mpr c12
            have c12b1 : (t198 != 1) = true := bne_iff_ne.mpr c12
            obtain rfl := Option.some.inj H
            go_wp2_with (first | (go_at_call 69; (with_reducible refine (postbagref01_Bit.calls a1 63 t198 _ A11.out).mono ?_); rintro e w' ⟨rfl, ⟨nd, rfl⟩⟩))
            go_ret
            exact ⟨by first | rfl | (simp; done) | (simp [*]; done), by repeat (first | exact Drawn0.refl _ | apply Drawn0.step)⟩
        · replace c10 := Bool.eq_false_iff.mpr c10
          subst c10
          have H1 : (some (IntKind.u64.wrap (t196 - a1))) = some r := by rw [if_neg (show ¬ (false = true) by decide)] at H; exact H
          clear H
          have H := H1
          clear H1
          obtain rfl := Option.some.inj H
          go_wp2
          go_ret
          exact ⟨by first | rfl | (simp; done) | (simp [*]; done), by repeat (first | exact Drawn0.refl _ | apply Drawn0.step)⟩
      · replace c9 := Bool.eq_false_iff.mpr c9
        subst c9
        have H1 : (if a3 = true then ((postbagref01_Bit.f a1 63).bind fun t199 => (if t199 = 1 then (some (IntKind.u64.wrap (t196 - a0))) else (some t196))) else (some t196)) = some r := by rw [if_neg (show ¬ (false = true) by decide)] at H; exact H
        clear H
        have H := H1
        clear H1
        by_cases c13 : a3 = true
        · subst c13
          have H1 : ((postbagref01_Bit.f a1 63).bind fun t199 => (if t199 = 1 then (some (IntKind.u64.wrap (t196 - a0))) else (some t196))) = some r := by rw [if_pos rfl] at H; exact H
          clear H
          have H := H1
          clear H1
          replace H := Option.bind_eq_some_iff.mp H
          obtain ⟨t199, A140, H⟩ := H
          replace H : (if t199 = 1 then (some (IntKind.u64.wrap (t196 - a0))) else (some t196)) = some r := H
          have A14 := Aside0.mk A140
          clear A140
          by_cases c15 : t199 = 1
          · rw [if_pos c15] at H
            have c15b0 : (t199 == 1) = true := beq_iff_eq.mpr c15
            have c15b1 : (t199 != 1) = false := bne_eq_false_iff_eq.mpr c15
            clear c15
            obtain rfl := Option.some.inj H
            go_wp2_with (first | (go_at_call 69; (with_reducible refine (postbagref01_Bit.calls a1 63 t199 _ A14.out).mono ?_); rintro e w' ⟨rfl, ⟨nd, rfl⟩⟩))
            go_ret
            exact ⟨by first | rfl | (simp; done) | (simp [*]; done), by repeat (first | exact Drawn0.refl _ | apply Drawn0.step)⟩
          · rw [if_neg c15] at H
            have c15b0 : (t199 == 1) = false := beq_eq_false_iff_ne.mpr c15
            have c15b1 : (t199 != 1) = true := bne_iff_ne.mpr c15
            obtain rfl := Option.some.inj H
            go_wp2_with (first | (go_at_call 69; (with_reducible refine (postbagref01_Bit.calls a1 63 t199 _ A14.out).mono ?_); rintro e w' ⟨rfl, ⟨nd, rfl⟩⟩))
            go_ret
            exact ⟨by first | rfl | (simp; done) | (simp [*]; done), by repeat (first | exact Drawn0.refl _ | apply Drawn0.step)⟩
        · replace c13 := Bool.eq_false_iff.mpr c13
          subst c13
          have H1 : (some t196) = some r := by rw [if_neg (show ¬ (false = true) by decide)] at H; exact H
          clear H
          have H := H1
          clear H1
          obtain rfl := Option.some.inj H
          go_wp2
          go_ret
          exact ⟨by first | rfl | (simp; done) | (simp [*]; done), by repeat (first | exact Drawn0.refl _ | apply Drawn0.step)⟩
def postbagref01_High.f (a0 : Int) (a1 : Int) (a2 : Bool) (a3 : Bool) : Option (Int) := if U64 a0 ∧ U64 a1 then some (hiOf a0 a1 a2 a3) else none
theorem postbagref01_High.spec (a0 a1 : Int) (a2 a3 : Bool) (r : Int) (h : postbagref01_High.f a0 a1 a2 a3 = some r) : ∃ k, postbagref01_High0.f k a0 a1 a2 a3 = some r := by
  unfold postbagref01_High.f at h
  by_cases hu : U64 a0 ∧ U64 a1
  · rw [if_pos hu] at h
    obtain rfl := Option.some.inj h
    refine ⟨2, ?_⟩
    unfold postbagref01_High0.f postbagref01_high.f
    rw [if_pos hu, postbagref01_Bit.eq hu.1]
    simp only [Option.bind_some, postbagref01_High0.j0, postbagref01_Bit.eq hu.2]
    have e : ∀ x : Int, U64 x → bitOf x 63 = x / 9223372036854775808 := fun x hx => by
      have h := bitOf_nat x 63 (by omega); unfold U64 at hx; show bitOf x ((63 : Nat) : Int) = _; rw [h]; show x / 9223372036854775808 % 2 = _; omega
    rw [e _ hu.1, e _ hu.2]
    have hr := hi_range a0 a1 hu.1 hu.2
    unfold hiOf
    generalize a0 * a1 / 18446744073709551616 = q at *
    unfold U64 at hr
    cases a2 <;> cases a3 <;> simp only [if_true, if_false, Bool.false_eq_true, false_and, true_and, beq_iff_eq] <;> simp only [u64w]
    · congr 1; omega
    · split <;> (congr 1; omega)
    · split <;> (congr 1; omega)
    · split <;> split <;> (congr 1; omega)
  · rw [if_neg hu] at h; exact absurd h (by simp)


theorem postbagref01_High.calls (a0 : Int) (a1 : Int) (a2 : Bool) (a3 : Bool) (r : Int) (w : World) (h : postbagref01_High.f a0 a1 a2 a3 = some r) :
    Calls Try.prog 75 #[.int .u64 a0, .int .u64 a1, .bool a2, .bool a3] w fun e w' => e = .returned (.int .u64 r) ∧ Drawn0 w w' := by
  obtain ⟨k, hk⟩ := postbagref01_High.spec a0 a1 a2 a3 r h
  exact postbagref01_High0.calls k a0 a1 a2 a3 r w hk

/-! ### postbagref04_many: function 36 -/
def postbagref04_many.j0 : Nat → Int → Int → Int → Int → Bool → Option (Int × Bool)
  | 0, _, _, _, _, _ => none
  | k + 1, x0, x1, x2, x8, x29 => if x29 = true then ((postbagref01_Quo.f x1 x2 (x0 == 57)).bind fun t203 => (some (t203, true))) else (if x8 = 59 then ((postbagref01_Rem.f x1 x2 (x0 == 59)).bind fun t204 => (some (t204, true))) else (if x8 = 60 then ((postbagref01_Rem.f x1 x2 (x0 == 59)).bind fun t205 => (some (t205, true))) else (some (0, false))))
def postbagref04_many.f (k : Nat) (a0 : Int) (a1 : Int) (a2 : Int) : Option (Int × Bool) := if a0 = 53 then (some (IntKind.u64.wrap (a1 * a2), true)) else (if a0 = 54 then ((postbagref01_High.f a1 a2 true true).bind fun t200 => (some (t200, true))) else (if a0 = 55 then ((postbagref01_High.f a1 a2 true false).bind fun t201 => (some (t201, true))) else (if a0 = 56 then ((postbagref01_High.f a1 a2 false false).bind fun t202 => (some (t202, true))) else (if a0 = 57 then (postbagref04_many.j0 k a0 a1 a2 a0 (a0 == 57)) else (postbagref04_many.j0 k a0 a1 a2 a0 (a0 == 58))))))
theorem postbagref04_many.mono_l : ∀ k, (∀ y0 y1 y2 y3 y4, LeO (postbagref04_many.j0 k y0 y1 y2 y3 y4) (postbagref04_many.j0 (k + 1) y0 y1 y2 y3 y4))
  | 0 => fun _ _ _ _ _ r h => by simp [postbagref04_many.j0] at h
  | k + 1 => by
    have ih0 := postbagref04_many.mono_l k
    · intro y0 y1 y2 y3 y4
      unfold postbagref04_many.j0
      repeat' first
      | (with_reducible exact ih0 _ _ _ _ _)
      | (with_reducible exact LeO.refl _)
      | (with_reducible exact LeO.none _)
      | (with_reducible refine LeO.ite ?_ ?_)
      | (with_reducible refine LeO.bind ?_ (fun _ => ?_))
      | exact ih0 _ _ _ _ _
      | exact LeO.none _
      | refine LeO.ite ?_ ?_
      | refine LeO.bind ?_ (fun _ => ?_)
theorem postbagref04_many.mono : ∀ a0 a1 a2 k, LeO (postbagref04_many.f k a0 a1 a2) (postbagref04_many.f (k + 1) a0 a1 a2) := by
  intro a0 a1 a2 k
  have ih0 := postbagref04_many.mono_l k
  unfold postbagref04_many.f
  repeat' first
      | (with_reducible exact ih0 _ _ _ _ _)
      | (with_reducible exact LeO.refl _)
      | (with_reducible exact LeO.none _)
      | (with_reducible refine LeO.ite ?_ ?_)
      | (with_reducible refine LeO.bind ?_ (fun _ => ?_))
      | exact ih0 _ _ _ _ _
      | exact LeO.none _
      | refine LeO.ite ?_ ?_
      | refine LeO.bind ?_ (fun _ => ?_)
set_option maxHeartbeats 8000000 in
set_option maxRecDepth 100000 in
theorem postbagref04_many.calls (k : Nat) (a0 : Int) (a1 : Int) (a2 : Int) (r1 : Int) (r2 : Bool) (w : World) (h : postbagref04_many.f k a0 a1 a2 = some (r1, r2)) :
    Calls Try.prog 36 #[.int .i64 a0, .int .u64 a1, .int .u64 a2] w fun e w' => e = .returned (.tuple #[.int .u64 r1, .bool r2]) ∧ Drawn0 w w' := by
  have H : (if a0 = 53 then (some (IntKind.u64.wrap (a1 * a2), true)) else (if a0 = 54 then ((postbagref01_High.f a1 a2 true true).bind fun t200 => (some (t200, true))) else (if a0 = 55 then ((postbagref01_High.f a1 a2 true false).bind fun t201 => (some (t201, true))) else (if a0 = 56 then ((postbagref01_High.f a1 a2 false false).bind fun t202 => (some (t202, true))) else (if a0 = 57 then (postbagref04_many.j0 k a0 a1 a2 a0 (a0 == 57)) else (postbagref04_many.j0 k a0 a1 a2 a0 (a0 == 58))))))) = some (r1, r2) := h
  clear h
  by_cases c4 : a0 = 53
  · rw [if_pos c4] at H
    have c4b0 : (a0 == 53) = true := beq_iff_eq.mpr c4
    have c4b1 : (a0 != 53) = false := bne_eq_false_iff_eq.mpr c4
    clear c4
    simp only [Option.some.injEq, Prod.mk.injEq] at H
    obtain ⟨rfl, rfl⟩ := H
    go_enter Try.func36, Try.ntmps36
    go_wp2
    go_ret2
    exact ⟨by first | rfl | (simp; done) | (simp [*]; done), by repeat (first | exact Drawn0.refl _ | apply Drawn0.step)⟩
  · rw [if_neg c4] at H
    have c4b0 : (a0 == 53) = false := beq_eq_false_iff_ne.mpr c4
    have c4b1 : (a0 != 53) = true := bne_iff_ne.mpr c4
    by_cases c5 : a0 = 54
    · rw [if_pos c5] at H
      have c5b0 : (a0 == 54) = true := beq_iff_eq.mpr c5
      have c5b1 : (a0 != 54) = false := bne_eq_false_iff_eq.mpr c5
      clear c5
      replace H := Option.bind_eq_some_iff.mp H
      obtain ⟨t200, A60, H⟩ := H
      replace H : (some (t200, true)) = some (r1, r2) := H
      have A6 := Aside0.mk A60
      clear A60
      simp only [Option.some.injEq, Prod.mk.injEq] at H
      obtain ⟨rfl, rfl⟩ := H
      go_enter Try.func36, Try.ntmps36
      go_wp2_with (first | ((with_reducible refine gate_callee (f := 75) rfl ?_); refine goesL_ (some 18) rfl rfl Try.func75 (by kernel_rfl) rfl #[.int .u64 a1, .int .u64 a2, .bool true, .bool true] rfl (by (try simp only [List.map_toArray, List.map_cons, List.map_nil]); first | done | rfl | (simp only [List.length_drop, List.length_take]; rfl)) ?_; (with_reducible refine (postbagref01_High.calls a1 a2 true true t200 _ A6.out).mono ?_); rintro e w' ⟨rfl, ⟨nd, rfl⟩⟩; refine ⟨_, rfl, ?_⟩))
      go_ret2
      exact ⟨by first | rfl | (simp; done) | (simp [*]; done), by repeat (first | exact Drawn0.refl _ | apply Drawn0.step)⟩
    · rw [if_neg c5] at H
      have c5b0 : (a0 == 54) = false := beq_eq_false_iff_ne.mpr c5
      have c5b1 : (a0 != 54) = true := bne_iff_ne.mpr c5
      by_cases c7 : a0 = 55
      · rw [if_pos c7] at H
        have c7b0 : (a0 == 55) = true := beq_iff_eq.mpr c7
        have c7b1 : (a0 != 55) = false := bne_eq_false_iff_eq.mpr c7
        clear c7
        replace H := Option.bind_eq_some_iff.mp H
        obtain ⟨t201, A80, H⟩ := H
        replace H : (some (t201, true)) = some (r1, r2) := H
        have A8 := Aside0.mk A80
        clear A80
        simp only [Option.some.injEq, Prod.mk.injEq] at H
        obtain ⟨rfl, rfl⟩ := H
        go_enter Try.func36, Try.ntmps36
        go_wp2_with (first | ((with_reducible refine gate_callee (f := 75) rfl ?_); refine goesL_ (some 23) rfl rfl Try.func75 (by kernel_rfl) rfl #[.int .u64 a1, .int .u64 a2, .bool true, .bool false] rfl (by (try simp only [List.map_toArray, List.map_cons, List.map_nil]); first | done | rfl | (simp only [List.length_drop, List.length_take]; rfl)) ?_; (with_reducible refine (postbagref01_High.calls a1 a2 true false t201 _ A8.out).mono ?_); rintro e w' ⟨rfl, ⟨nd, rfl⟩⟩; refine ⟨_, rfl, ?_⟩))
        go_ret2
        exact ⟨by first | rfl | (simp; done) | (simp [*]; done), by repeat (first | exact Drawn0.refl _ | apply Drawn0.step)⟩
      · rw [if_neg c7] at H
        have c7b0 : (a0 == 55) = false := beq_eq_false_iff_ne.mpr c7
        have c7b1 : (a0 != 55) = true := bne_iff_ne.mpr c7
        by_cases c9 : a0 = 56
        · rw [if_pos c9] at H
          have c9b0 : (a0 == 56) = true := beq_iff_eq.mpr c9
          have c9b1 : (a0 != 56) = false := bne_eq_false_iff_eq.mpr c9
          clear c9
          replace H := Option.bind_eq_some_iff.mp H
          obtain ⟨t202, A100, H⟩ := H
          replace H : (some (t202, true)) = some (r1, r2) := H
          have A10 := Aside0.mk A100
          clear A100
          simp only [Option.some.injEq, Prod.mk.injEq] at H
          obtain ⟨rfl, rfl⟩ := H
          go_enter Try.func36, Try.ntmps36
          go_wp2_with (first | ((with_reducible refine gate_callee (f := 75) rfl ?_); refine goesL_ (some 28) rfl rfl Try.func75 (by kernel_rfl) rfl #[.int .u64 a1, .int .u64 a2, .bool false, .bool false] rfl (by (try simp only [List.map_toArray, List.map_cons, List.map_nil]); first | done | rfl | (simp only [List.length_drop, List.length_take]; rfl)) ?_; (with_reducible refine (postbagref01_High.calls a1 a2 false false t202 _ A10.out).mono ?_); rintro e w' ⟨rfl, ⟨nd, rfl⟩⟩; refine ⟨_, rfl, ?_⟩))
          go_ret2
          exact ⟨by first | rfl | (simp; done) | (simp [*]; done), by repeat (first | exact Drawn0.refl _ | apply Drawn0.step)⟩
        · rw [if_neg c9] at H
          have c9b0 : (a0 == 56) = false := beq_eq_false_iff_ne.mpr c9
          have c9b1 : (a0 != 56) = true := bne_iff_ne.mpr c9
          have HC11 := Aside0.mk H
          clear H
          go_enter Try.func36, Try.ntmps36
          go_upto_if 29 with (fail)
          go_cut [29] (fun v29 wc => ∃ (kq : Nat) (x29_10 : Bool), v29 = .bool x29_10 ∧ Aside0 (postbagref04_many.j0 kq a0 a1 a2 a0 x29_10 = some (r1, r2)) ∧ Aside0 (kq ≤ k) ∧ Drawn0 w wc)
          case first =>
            have H := HC11.out
            clear HC11
            by_cases c12 : a0 = 57
            · rw [if_pos c12] at H
              have c12b0 : (a0 == 57) = true := beq_iff_eq.mpr c12
              have c12b1 : (a0 != 57) = false := bne_eq_false_iff_eq.mpr c12
              clear c12
              (first | rw [c12b0] | (simp only [i64_w, i32_w]; rw [c12b0]) | skip)
              have H' := Aside0.mk H
              clear H
              go_wp2
              go_meet
              case rel => exact ⟨_, ((a0 == 57)), (by first | rfl | (simp; done) | (simp [*]; done)), H', ⟨by first | omega | exact Nat.le_refl _⟩, by repeat (first | exact Drawn0.refl _ | apply Drawn0.step)⟩
            · rw [if_neg c12] at H
              have c12b0 : (a0 == 57) = false := beq_eq_false_iff_ne.mpr c12
              have c12b1 : (a0 != 57) = true := bne_iff_ne.mpr c12
              (first | rw [c12b0] | (simp only [i64_w, i32_w]; rw [c12b0]) | skip)
              have H' := Aside0.mk H
              clear H
              go_wp2
              go_meet
              case rel => exact ⟨_, ((a0 == 58)), (by first | rfl | (simp; done) | (simp [*]; done)), H', ⟨by first | omega | exact Nat.le_refl _⟩, by repeat (first | exact Drawn0.refl _ | apply Drawn0.step)⟩
          case rest =>
            clear HC11
            try clear c1
            try clear p2
            try clear c3
            try clear c4
            try clear c4b0
            try clear c4b1
            try clear c5
            try clear c5b0
            try clear c5b1
            try clear c7
            try clear c7b0
            try clear c7b1
            try clear c9
            try clear c9b0
            try clear c9b1
            try clear c12
            try clear c12b0
            try clear c12b1
            obtain ⟨kq, x29_10, rfl, HA, HJ10, ⟨mc10, rfl⟩⟩ := hcut
            cases kq with
            | zero => exact absurd HA.out (by simp [postbagref04_many.j0])
            | succ kj10 =>
              have H := HA.out
              clear HA
              simp only [postbagref04_many.j0] at H
              by_cases c13 : x29_10 = true
              · subst c13
                have H1 : ((postbagref01_Quo.f a1 a2 (a0 == 57)).bind fun t203 => (some (t203, true))) = some (r1, r2) := by rw [if_pos rfl] at H; exact H
                clear H
                have H := H1
                clear H1
                replace H := Option.bind_eq_some_iff.mp H
                obtain ⟨t203, A140, H⟩ := H
                replace H : (some (t203, true)) = some (r1, r2) := H
                have A14 := Aside0.mk A140
                clear A140
                simp only [Option.some.injEq, Prod.mk.injEq] at H
                obtain ⟨rfl, rfl⟩ := H
                go_wp2_with (first | ((with_reducible refine gate_callee (f := 73) rfl ?_); refine goesL_ (some 36) rfl rfl Try.func73 (by kernel_rfl) rfl #[.int .u64 a1, .int .u64 a2, .bool (a0 == 57)] rfl (by (try simp only [List.map_toArray, List.map_cons, List.map_nil]); first | done | rfl | (simp only [List.length_drop, List.length_take]; rfl)) ?_; (with_reducible refine (postbagref01_Quo.calls a1 a2 (a0 == 57) t203 _ A14.out).mono ?_); rintro e w' ⟨rfl, ⟨nd, rfl⟩⟩; refine ⟨_, rfl, ?_⟩))
                go_ret2
                exact ⟨by first | rfl | (simp; done) | (simp [*]; done), by repeat (first | exact Drawn0.refl _ | apply Drawn0.step)⟩
              · replace c13 := Bool.eq_false_iff.mpr c13
                subst c13
                have H1 : (if a0 = 59 then ((postbagref01_Rem.f a1 a2 (a0 == 59)).bind fun t204 => (some (t204, true))) else (if a0 = 60 then ((postbagref01_Rem.f a1 a2 (a0 == 59)).bind fun t205 => (some (t205, true))) else (some (0, false)))) = some (r1, r2) := by rw [if_neg (show ¬ (false = true) by decide)] at H; exact H
                clear H
                have H := H1
                clear H1
                by_cases c15 : a0 = 59
                · rw [if_pos c15] at H
                  have c15b0 : (a0 == 59) = true := beq_iff_eq.mpr c15
                  have c15b1 : (a0 != 59) = false := bne_eq_false_iff_eq.mpr c15
                  clear c15
                  replace H := Option.bind_eq_some_iff.mp H
                  obtain ⟨t204, A160, H⟩ := H
                  replace H : (some (t204, true)) = some (r1, r2) := H
                  have A16 := Aside0.mk A160
                  clear A160
                  simp only [Option.some.injEq, Prod.mk.injEq] at H
                  obtain ⟨rfl, rfl⟩ := H
                  go_wp2_with (first | ((with_reducible refine gate_callee (f := 74) rfl ?_); refine goesL_ (some 44) rfl rfl Try.func74 (by kernel_rfl) rfl #[.int .u64 a1, .int .u64 a2, .bool true] rfl (by (try simp only [List.map_toArray, List.map_cons, List.map_nil]); first | done | rfl | (simp only [List.length_drop, List.length_take]; rfl)) ?_; (with_reducible refine (postbagref01_Rem.calls a1 a2 true t204 _ (by have hh_ := A16.out; rw [c15b0] at hh_; exact hh_)).mono ?_); rintro e w' ⟨rfl, ⟨nd, rfl⟩⟩; refine ⟨_, rfl, ?_⟩))
                  go_ret2
                  exact ⟨by first | rfl | (simp; done) | (simp [*]; done), by repeat (first | exact Drawn0.refl _ | apply Drawn0.step)⟩
                · rw [if_neg c15] at H
                  have c15b0 : (a0 == 59) = false := beq_eq_false_iff_ne.mpr c15
                  have c15b1 : (a0 != 59) = true := bne_iff_ne.mpr c15
                  by_cases c17 : a0 = 60
                  · rw [if_pos c17] at H
                    have c17b0 : (a0 == 60) = true := beq_iff_eq.mpr c17
                    have c17b1 : (a0 != 60) = false := bne_eq_false_iff_eq.mpr c17
                    clear c17
                    replace H := Option.bind_eq_some_iff.mp H
                    obtain ⟨t205, A180, H⟩ := H
                    replace H : (some (t205, true)) = some (r1, r2) := H
                    have A18 := Aside0.mk A180
                    clear A180
                    simp only [Option.some.injEq, Prod.mk.injEq] at H
                    obtain ⟨rfl, rfl⟩ := H
                    go_wp2_with (first | ((with_reducible refine gate_callee (f := 74) rfl ?_); refine goesL_ (some 44) rfl rfl Try.func74 (by kernel_rfl) rfl #[.int .u64 a1, .int .u64 a2, .bool false] rfl (by (try simp only [List.map_toArray, List.map_cons, List.map_nil]); first | done | rfl | (simp only [List.length_drop, List.length_take]; rfl)) ?_; (with_reducible refine (postbagref01_Rem.calls a1 a2 false t205 _ (by have hh_ := A18.out; rw [c15b0] at hh_; exact hh_)).mono ?_); rintro e w' ⟨rfl, ⟨nd, rfl⟩⟩; refine ⟨_, rfl, ?_⟩))
                    go_ret2
                    exact ⟨by first | rfl | (simp; done) | (simp [*]; done), by repeat (first | exact Drawn0.refl _ | apply Drawn0.step)⟩
                  · rw [if_neg c17] at H
                    have c17b0 : (a0 == 60) = false := beq_eq_false_iff_ne.mpr c17
                    have c17b1 : (a0 != 60) = true := bne_iff_ne.mpr c17
                    simp only [Option.some.injEq, Prod.mk.injEq] at H
                    obtain ⟨rfl, rfl⟩ := H
                    go_wp2
                    go_ret2
                    exact ⟨by first | rfl | (simp; done) | (simp [*]; done), by repeat (first | exact Drawn0.refl _ | apply Drawn0.step)⟩

/-! ### postbagref04_Value: function 11 -/
def postbagref04_Value.j0 : Nat → Int → Int → Int → Int → Int → Int → Int → Int → Int → Bool → Bool → Option (Int × Int)
  | 0, _, _, _, _, _, _, _, _, _, _, _ => none
  | k + 1, x1, x2, x3, x11, x207000, x207001, x207002, x207003, x207004, x207005, x207006 => if x207000 = 1 then (some (x11, 0)) else (if x207000 = 2 then (some (IntKind.u64.wrap (x1 + x11), 0)) else (if x207000 = 3 then (some (IntKind.u64.wrap (x1 + 4), 0)) else (if x207000 = 4 then (some (IntKind.u64.wrap (x1 + 4), 0)) else ((postbagref04_plain.f k x207000 x2 x11).bind fun bt212 => (if bt212.2 = true then (some (bt212.1, 0)) else ((postbagref04_narrow.f k x207000 x2 x11).bind fun bt214 => (if bt214.2 = true then (some (bt214.1, 0)) else ((postbagref04_many.f k x207000 x2 x3).bind fun bt216 => (if bt216.2 = true then (some (bt216.1, 0)) else (some (0, 80)))))))))))
def postbagref04_Value.f (k : Nat) (a0_0 : Int) (a0_1 : Int) (a0_2 : Int) (a0_3 : Int) (a0_4 : Int) (a0_5 : Bool) (a0_6 : Bool) (a1 : Int) (a2 : Int) (a3 : Int) : Option (Int × Int) := (postbagref02_Good.f a0_0 a0_1 a0_2 a0_3 a0_4 a0_5 a0_6).bind fun t207 => (if t207 = true then ((postbagref02_Row.f a0_0).bind fun bt208 => (if bt208.1 = 8 then (postbagref04_Value.j0 k a1 a2 a3 a3 a0_0 a0_1 a0_2 a0_3 a0_4 a0_5 a0_6) else (postbagref04_Value.j0 k a1 a2 a3 (IntKind.u64.wrap (a0_4)) a0_0 a0_1 a0_2 a0_3 a0_4 a0_5 a0_6))) else (some (0, 20)))
theorem postbagref04_Value.mono_l : ∀ k, (∀ y0 y1 y2 y3 y4 y5 y6 y7 y8 y9 y10, LeO (postbagref04_Value.j0 k y0 y1 y2 y3 y4 y5 y6 y7 y8 y9 y10) (postbagref04_Value.j0 (k + 1) y0 y1 y2 y3 y4 y5 y6 y7 y8 y9 y10))
  | 0 => fun _ _ _ _ _ _ _ _ _ _ _ r h => by simp [postbagref04_Value.j0] at h
  | k + 1 => by
    have ih0 := postbagref04_Value.mono_l k
    · intro y0 y1 y2 y3 y4 y5 y6 y7 y8 y9 y10
      unfold postbagref04_Value.j0
      repeat' first
      | (with_reducible exact ih0 _ _ _ _ _ _ _ _ _ _ _)
      | (with_reducible exact postbagref04_many.mono _ _ _ _)
      | (with_reducible exact postbagref04_narrow.mono _ _ _ _)
      | (with_reducible exact postbagref04_plain.mono _ _ _ _)
      | (with_reducible exact LeO.refl _)
      | (with_reducible exact LeO.none _)
      | (with_reducible refine LeO.ite ?_ ?_)
      | (with_reducible refine LeO.bind ?_ (fun _ => ?_))
      | exact ih0 _ _ _ _ _ _ _ _ _ _ _
      | exact postbagref04_many.mono _ _ _ _
      | exact postbagref04_narrow.mono _ _ _ _
      | exact postbagref04_plain.mono _ _ _ _
      | exact LeO.none _
      | refine LeO.ite ?_ ?_
      | refine LeO.bind ?_ (fun _ => ?_)
theorem postbagref04_Value.mono : ∀ a0 a1 a2 a3 a4 a5 a6 a7 a8 a9 k, LeO (postbagref04_Value.f k a0 a1 a2 a3 a4 a5 a6 a7 a8 a9) (postbagref04_Value.f (k + 1) a0 a1 a2 a3 a4 a5 a6 a7 a8 a9) := by
  intro a0 a1 a2 a3 a4 a5 a6 a7 a8 a9 k
  have ih0 := postbagref04_Value.mono_l k
  unfold postbagref04_Value.f
  repeat' first
      | (with_reducible exact ih0 _ _ _ _ _ _ _ _ _ _ _)
      | (with_reducible exact postbagref04_many.mono _ _ _ _)
      | (with_reducible exact postbagref04_narrow.mono _ _ _ _)
      | (with_reducible exact postbagref04_plain.mono _ _ _ _)
      | (with_reducible exact LeO.refl _)
      | (with_reducible exact LeO.none _)
      | (with_reducible refine LeO.ite ?_ ?_)
      | (with_reducible refine LeO.bind ?_ (fun _ => ?_))
      | exact ih0 _ _ _ _ _ _ _ _ _ _ _
      | exact postbagref04_many.mono _ _ _ _
      | exact postbagref04_narrow.mono _ _ _ _
      | exact postbagref04_plain.mono _ _ _ _
      | exact LeO.none _
      | refine LeO.ite ?_ ?_
      | refine LeO.bind ?_ (fun _ => ?_)
set_option maxHeartbeats 8000000 in
set_option maxRecDepth 100000 in
theorem postbagref04_Value.calls (k : Nat) (a0_0 : Int) (a0_1 : Int) (a0_2 : Int) (a0_3 : Int) (a0_4 : Int) (a0_5 : Bool) (a0_6 : Bool) (a1 : Int) (a2 : Int) (a3 : Int) (r1 : Int) (r2 : Int) (w : World) (h : postbagref04_Value.f k a0_0 a0_1 a0_2 a0_3 a0_4 a0_5 a0_6 a1 a2 a3 = some (r1, r2)) :
    Calls Try.prog 11 #[.agg #[.int .i64 a0_0, .int .i64 a0_1, .int .i64 a0_2, .int .i64 a0_3, .int .i64 a0_4, .bool a0_5, .bool a0_6], .int .u64 a1, .int .u64 a2, .int .u64 a3] w fun e w' => e = .returned (.tuple #[.int .u64 r1, .int .i64 r2]) ∧ Below w.heap.size w w' := by
  have hu23 := Try.underlying23
  have hix53_0 : ∀ (x0_ x1_ x2_ x3_ : Value) (W : World), (Instr.index 53 (.agg #[x0_, x1_, x2_, x3_]) (.int .i64 0)).run Try.prog W = .ok x0_ W := fun x0_ x1_ x2_ x3_ W => by kernel_rfl
  have HB := Aside0.mk (Below.refl w.heap.size w)
  have H : ((postbagref02_Good.f a0_0 a0_1 a0_2 a0_3 a0_4 a0_5 a0_6).bind fun t207 => (if t207 = true then ((postbagref02_Row.f a0_0).bind fun bt208 => (if bt208.1 = 8 then (postbagref04_Value.j0 k a1 a2 a3 a3 a0_0 a0_1 a0_2 a0_3 a0_4 a0_5 a0_6) else (postbagref04_Value.j0 k a1 a2 a3 (IntKind.u64.wrap (a0_4)) a0_0 a0_1 a0_2 a0_3 a0_4 a0_5 a0_6))) else (some (0, 20)))) = some (r1, r2) := h
  clear h
  replace H := Option.bind_eq_some_iff.mp H
  obtain ⟨t207, A50, H⟩ := H
  replace H : (if t207 = true then ((postbagref02_Row.f a0_0).bind fun bt208 => (if bt208.1 = 8 then (postbagref04_Value.j0 k a1 a2 a3 a3 a0_0 a0_1 a0_2 a0_3 a0_4 a0_5 a0_6) else (postbagref04_Value.j0 k a1 a2 a3 (IntKind.u64.wrap (a0_4)) a0_0 a0_1 a0_2 a0_3 a0_4 a0_5 a0_6))) else (some (0, 20))) = some (r1, r2) := H
  have A5 := Aside0.mk A50
  clear A50
  by_cases c6 : t207 = true
  · subst c6
    have H1 : ((postbagref02_Row.f a0_0).bind fun bt208 => (if bt208.1 = 8 then (postbagref04_Value.j0 k a1 a2 a3 a3 a0_0 a0_1 a0_2 a0_3 a0_4 a0_5 a0_6) else (postbagref04_Value.j0 k a1 a2 a3 (IntKind.u64.wrap (a0_4)) a0_0 a0_1 a0_2 a0_3 a0_4 a0_5 a0_6))) = some (r1, r2) := by rw [if_pos rfl] at H; exact H
    clear H
    have H := H1
    clear H1
    replace H := Option.bind_eq_some_iff.mp H
    obtain ⟨⟨t208, t209, t210, t211⟩, A70, H⟩ := H
    replace H : (if t208 = 8 then (postbagref04_Value.j0 k a1 a2 a3 a3 a0_0 a0_1 a0_2 a0_3 a0_4 a0_5 a0_6) else (postbagref04_Value.j0 k a1 a2 a3 (IntKind.u64.wrap (a0_4)) a0_0 a0_1 a0_2 a0_3 a0_4 a0_5 a0_6)) = some (r1, r2) := H
    have A7 := Aside0.mk A70
    clear A70
    have HC8 := Aside0.mk H
    clear H
    go_enter Try.func11, Try.ntmps11
    go_upto_if 23 with (first | ((with_reducible refine gate_dst (N := 4) rfl ?_); refine box_event ?hg (N := 4) ?hd (cs := #[.int .i64 a0_0, .int .i64 a0_1, .int .i64 a0_2, .int .i64 a0_3, .int .i64 a0_4, .bool a0_5, .bool a0_6]) (t := 23) ?hr ?_; (case hd => rfl); (case hg => rfl); (case hr => first | (go_simp; done) | (go_simp; rfl)); intro gb206 hg w9 hbox hb; have n0_ := Aside0.mk (below_step (by repeat (first | (with_reducible first | exact HB.out | apply below_alloc | apply pw_below_drewN | apply below_drew1) | exact HB.out)) hb); have n1_ := Aside0.mk (hbox); have n2_ := Aside0.mk ((by rw [hg]; exact (below_size (by repeat (first | (with_reducible first | exact HB.out | apply below_alloc | apply pw_below_drewN | apply below_drew1) | exact HB.out))) : w.heap.size ≤ gb206)); have n3_ := Aside0.mk ((by rw [hg]; exact (below_size (by repeat (first | (with_reducible first | exact HB.out | apply below_alloc | apply pw_below_drewN | apply below_drew1) | exact HB.out))) : w.heap.size ≤ gb206)); clear HB; have HB := n0_; have BK206 := n1_; have GW206 := n2_; have GE206 := n3_; clear n0_ n1_ n2_ n3_; clear hb hbox hg; have hcz10_0 : w9.cell? ⟨gb206, 0, none⟩ = some (.int .i64 a0_0) := (blk_cell BK206.out 0).trans rfl; have hcz10_1 : w9.cell? ⟨gb206, 1, none⟩ = some (.int .i64 a0_1) := (blk_cell BK206.out 1).trans rfl; have hcz10_2 : w9.cell? ⟨gb206, 2, none⟩ = some (.int .i64 a0_2) := (blk_cell BK206.out 2).trans rfl; have hcz10_3 : w9.cell? ⟨gb206, 3, none⟩ = some (.int .i64 a0_3) := (blk_cell BK206.out 3).trans rfl; have hcz10_4 : w9.cell? ⟨gb206, 4, none⟩ = some (.int .i64 a0_4) := (blk_cell BK206.out 4).trans rfl; have hcz10_5 : w9.cell? ⟨gb206, 5, none⟩ = some (.bool a0_5) := (blk_cell BK206.out 5).trans rfl; have hcz10_6 : w9.cell? ⟨gb206, 6, none⟩ = some (.bool a0_6) := (blk_cell BK206.out 6).trans rfl; have hfz10_0 := blk_frozen BK206.out 0; have hfz10_1 := blk_frozen BK206.out 1; have hfz10_2 := blk_frozen BK206.out 2; have hfz10_3 := blk_frozen BK206.out 3; have hfz10_4 := blk_frozen BK206.out 4; have hfz10_5 := blk_frozen BK206.out 5; have hfz10_6 := blk_frozen BK206.out 6) | ((with_reducible refine gate_callee (f := 32) rfl ?_); refine goesL_ (some 15) rfl rfl Try.func32 (by kernel_rfl) rfl #[.agg #[.int .i64 a0_0, .int .i64 a0_1, .int .i64 a0_2, .int .i64 a0_3, .int .i64 a0_4, .bool a0_5, .bool a0_6]] rfl (by (try simp only [List.map_toArray, List.map_cons, List.map_nil]); first | done | rfl | (simp only [List.length_drop, List.length_take]; rfl)) ?_; (with_reducible refine (postbagref02_Good.calls a0_0 a0_1 a0_2 a0_3 a0_4 a0_5 a0_6 true _ A5.out).mono ?_); rintro e w11 ⟨rfl, hb⟩; refine ⟨_, rfl, ?_⟩; have n0_ := Aside0.mk (blk_below (g := gb206) (o := .cells #[.int .i64 a0_0, .int .i64 a0_1, .int .i64 a0_2, .int .i64 a0_3, .int .i64 a0_4, .bool a0_5, .bool a0_6] 23 (0, 0)) (by (with_reducible repeat (first | refine blk_drewN ?_ _ | refine blk_drew ?_ | refine blk_alloc ?_ _)); exact BK206.out) hb); have n1_ := Aside0.mk (below_step (by repeat (first | (with_reducible first | exact HB.out | apply below_alloc | apply pw_below_drewN | apply below_drew1 | refine below_set ?_ GE206.out) | exact HB.out)) hb); clear BK206; clear HB; have BK206 := n0_; have HB := n1_; clear n0_ n1_; (try clear hb); (try clear hb2); (try clear hk); (try clear hi); have hcz12_0 : w11.cell? ⟨gb206, 0, none⟩ = some (.int .i64 a0_0) := (blk_cell BK206.out 0).trans rfl; have hcz12_1 : w11.cell? ⟨gb206, 1, none⟩ = some (.int .i64 a0_1) := (blk_cell BK206.out 1).trans rfl; have hcz12_2 : w11.cell? ⟨gb206, 2, none⟩ = some (.int .i64 a0_2) := (blk_cell BK206.out 2).trans rfl; have hcz12_3 : w11.cell? ⟨gb206, 3, none⟩ = some (.int .i64 a0_3) := (blk_cell BK206.out 3).trans rfl; have hcz12_4 : w11.cell? ⟨gb206, 4, none⟩ = some (.int .i64 a0_4) := (blk_cell BK206.out 4).trans rfl; have hcz12_5 : w11.cell? ⟨gb206, 5, none⟩ = some (.bool a0_5) := (blk_cell BK206.out 5).trans rfl; have hcz12_6 : w11.cell? ⟨gb206, 6, none⟩ = some (.bool a0_6) := (blk_cell BK206.out 6).trans rfl; have hfz12_0 := blk_frozen BK206.out 0; have hfz12_1 := blk_frozen BK206.out 1; have hfz12_2 := blk_frozen BK206.out 2; have hfz12_3 := blk_frozen BK206.out 3; have hfz12_4 := blk_frozen BK206.out 4; have hfz12_5 := blk_frozen BK206.out 5; have hfz12_6 := blk_frozen BK206.out 6) | ((with_reducible refine gate_callee (f := 33) rfl ?_); refine goesL_ (some 19) rfl rfl Try.func33 (by kernel_rfl) rfl #[.int .i64 a0_0] rfl (by (try simp only [List.map_toArray, List.map_cons, List.map_nil]); first | done | rfl | (simp only [List.length_drop, List.length_take]; rfl)) ?_; (with_reducible refine (postbagref02_Row.calls a0_0 t208 t209 t210 t211 _ A7.out).mono ?_); rintro e w13 ⟨rfl, hb⟩; refine ⟨_, rfl, ?_⟩; have n0_ := Aside0.mk (blk_below (g := gb206) (o := .cells #[.int .i64 a0_0, .int .i64 a0_1, .int .i64 a0_2, .int .i64 a0_3, .int .i64 a0_4, .bool a0_5, .bool a0_6] 23 (0, 0)) (by (with_reducible repeat (first | refine blk_drewN ?_ _ | refine blk_drew ?_ | refine blk_alloc ?_ _)); exact BK206.out) hb); have n1_ := Aside0.mk (below_step (by repeat (first | (with_reducible first | exact HB.out | apply below_alloc | apply pw_below_drewN | apply below_drew1 | refine below_set ?_ GE206.out) | exact HB.out)) hb); clear BK206; clear HB; have BK206 := n0_; have HB := n1_; clear n0_ n1_; (try clear hb); (try clear hb2); (try clear hk); (try clear hi)))
    (try simp only [Act.put, List.setIfInBounds_toArray, List.set_cons_zero, List.set_cons_succ])
    go_cut [11] (fun v11 wc => ∃ (kq : Nat) (x11_7 : Int), v11 = .int .u64 x11_7 ∧ Aside0 (postbagref04_Value.j0 kq a1 a2 a3 x11_7 a0_0 a0_1 a0_2 a0_3 a0_4 a0_5 a0_6 = some (r1, r2)) ∧ Aside0 (kq ≤ k) ∧ Aside0 (wc.heap[gb206]? = some (.cells #[.int .i64 a0_0, .int .i64 a0_1, .int .i64 a0_2, .int .i64 a0_3, .int .i64 a0_4, .bool a0_5, .bool a0_6] 23 (0, 0))) ∧ Aside0 (Below w.heap.size w wc))
    case first =>
      have H := HC8.out
      clear HC8
      by_cases c14 : t208 = 8
      · rw [if_pos c14] at H
        have c14b0 : (t208 == 8) = true := beq_iff_eq.mpr c14
        have c14b1 : (t208 != 8) = false := bne_eq_false_iff_eq.mpr c14
        clear c14
        (first | rw [c14b0] | (simp only [i64_w, i32_w]; rw [c14b0]) | skip)
        have H' := Aside0.mk H
        clear H
        go_wp2
        go_meet
        case rel => exact ⟨_, (a3), (by first | rfl | (simp; done) | (simp [*]; done)), H', ⟨by first | omega | exact Nat.le_refl _⟩, ⟨by (with_reducible repeat (first | refine blk_drewN ?_ _ | refine blk_drew ?_ | refine blk_alloc ?_ _)); exact BK206.out⟩, ⟨by repeat (first | (with_reducible first | exact HB.out | apply below_alloc | apply pw_below_drewN | apply below_drew1 | refine below_set ?_ GE206.out) | exact HB.out)⟩⟩
      · rw [if_neg c14] at H
        have c14b0 : (t208 == 8) = false := beq_eq_false_iff_ne.mpr c14
        have c14b1 : (t208 != 8) = true := bne_iff_ne.mpr c14
        (first | rw [c14b0] | (simp only [i64_w, i32_w]; rw [c14b0]) | skip)
        have H' := Aside0.mk H
        clear H
        have hcz15_0 : w13.cell? ⟨gb206, 0, none⟩ = some (.int .i64 a0_0) := (blk_cell BK206.out 0).trans rfl
        have hcz15_1 : w13.cell? ⟨gb206, 1, none⟩ = some (.int .i64 a0_1) := (blk_cell BK206.out 1).trans rfl
        have hcz15_2 : w13.cell? ⟨gb206, 2, none⟩ = some (.int .i64 a0_2) := (blk_cell BK206.out 2).trans rfl
        have hcz15_3 : w13.cell? ⟨gb206, 3, none⟩ = some (.int .i64 a0_3) := (blk_cell BK206.out 3).trans rfl
        have hcz15_4 : w13.cell? ⟨gb206, 4, none⟩ = some (.int .i64 a0_4) := (blk_cell BK206.out 4).trans rfl
        have hcz15_5 : w13.cell? ⟨gb206, 5, none⟩ = some (.bool a0_5) := (blk_cell BK206.out 5).trans rfl
        have hcz15_6 : w13.cell? ⟨gb206, 6, none⟩ = some (.bool a0_6) := (blk_cell BK206.out 6).trans rfl
        have hfz15_0 := blk_frozen BK206.out 0
        have hfz15_1 := blk_frozen BK206.out 1
        have hfz15_2 := blk_frozen BK206.out 2
        have hfz15_3 := blk_frozen BK206.out 3
        have hfz15_4 := blk_frozen BK206.out 4
        have hfz15_5 := blk_frozen BK206.out 5
        have hfz15_6 := blk_frozen BK206.out 6
        go_wp2
        go_meet
        case rel => exact ⟨_, (IntKind.u64.wrap (a0_4)), (by first | rfl | (simp; done) | (simp [*]; done)), H', ⟨by first | omega | exact Nat.le_refl _⟩, ⟨by (with_reducible repeat (first | refine blk_drewN ?_ _ | refine blk_drew ?_ | refine blk_alloc ?_ _)); exact BK206.out⟩, ⟨by repeat (first | (with_reducible first | exact HB.out | apply below_alloc | apply pw_below_drewN | apply below_drew1 | refine below_set ?_ GE206.out) | exact HB.out)⟩⟩
    case rest =>
      clear HC8
      try clear c1
      try clear p2
      try clear c3
      try clear c6
      try clear c11
      try clear c14
      try clear c14b0
      try clear c14b1
      try clear hcz10_0
      try clear hcz10_1
      try clear hcz10_2
      try clear hcz10_3
      try clear hcz10_4
      try clear hcz10_5
      try clear hcz10_6
      try clear hcz12_0
      try clear hcz12_1
      try clear hcz12_2
      try clear hcz12_3
      try clear hcz12_4
      try clear hcz12_5
      try clear hcz12_6
      try clear hcz15_0
      try clear hcz15_1
      try clear hcz15_2
      try clear hcz15_3
      try clear hcz15_4
      try clear hcz15_5
      try clear hcz15_6
      try clear hfz10_0
      try clear hfz10_1
      try clear hfz10_2
      try clear hfz10_3
      try clear hfz10_4
      try clear hfz10_5
      try clear hfz10_6
      try clear hfz12_0
      try clear hfz12_1
      try clear hfz12_2
      try clear hfz12_3
      try clear hfz12_4
      try clear hfz12_5
      try clear hfz12_6
      try clear hfz15_0
      try clear hfz15_1
      try clear hfz15_2
      try clear hfz15_3
      try clear hfz15_4
      try clear hfz15_5
      try clear hfz15_6
      obtain ⟨kq, x11_7, rfl, HA, HJ7, BK206, HB⟩ := hcut
      cases kq with
      | zero => exact absurd HA.out (by simp [postbagref04_Value.j0])
      | succ kj7 =>
        have H := HA.out
        clear HA
        simp only [postbagref04_Value.j0] at H
        by_cases c16 : a0_0 = 1
        · rw [if_pos c16] at H
          have c16b0 : (a0_0 == 1) = true := beq_iff_eq.mpr c16
          have c16b1 : (a0_0 != 1) = false := bne_eq_false_iff_eq.mpr c16
          clear c16
          simp only [Option.some.injEq, Prod.mk.injEq] at H
          obtain ⟨rfl, rfl⟩ := H
          have hcz17_0 : wc.cell? ⟨gb206, 0, none⟩ = some (.int .i64 a0_0) := (blk_cell BK206.out 0).trans rfl
          have hcz17_1 : wc.cell? ⟨gb206, 1, none⟩ = some (.int .i64 a0_1) := (blk_cell BK206.out 1).trans rfl
          have hcz17_2 : wc.cell? ⟨gb206, 2, none⟩ = some (.int .i64 a0_2) := (blk_cell BK206.out 2).trans rfl
          have hcz17_3 : wc.cell? ⟨gb206, 3, none⟩ = some (.int .i64 a0_3) := (blk_cell BK206.out 3).trans rfl
          have hcz17_4 : wc.cell? ⟨gb206, 4, none⟩ = some (.int .i64 a0_4) := (blk_cell BK206.out 4).trans rfl
          have hcz17_5 : wc.cell? ⟨gb206, 5, none⟩ = some (.bool a0_5) := (blk_cell BK206.out 5).trans rfl
          have hcz17_6 : wc.cell? ⟨gb206, 6, none⟩ = some (.bool a0_6) := (blk_cell BK206.out 6).trans rfl
          have hfz17_0 := blk_frozen BK206.out 0
          have hfz17_1 := blk_frozen BK206.out 1
          have hfz17_2 := blk_frozen BK206.out 2
          have hfz17_3 := blk_frozen BK206.out 3
          have hfz17_4 := blk_frozen BK206.out 4
          have hfz17_5 := blk_frozen BK206.out 5
          have hfz17_6 := blk_frozen BK206.out 6
          go_wp2
          go_ret2
          exact ⟨by first | rfl | (simp [errW_none, errW_some] <;> rfl) | (simp [*, errW_none, errW_some] <;> rfl), by repeat (first | (with_reducible first | exact HB.out | apply below_alloc | apply pw_below_drewN | apply below_drew1 | refine below_set ?_ GE206.out) | exact HB.out)⟩
        · rw [if_neg c16] at H
          have c16b0 : (a0_0 == 1) = false := beq_eq_false_iff_ne.mpr c16
          have c16b1 : (a0_0 != 1) = true := bne_iff_ne.mpr c16
          by_cases c18 : a0_0 = 2
          · rw [if_pos c18] at H
            have c18b0 : (a0_0 == 2) = true := beq_iff_eq.mpr c18
            have c18b1 : (a0_0 != 2) = false := bne_eq_false_iff_eq.mpr c18
            clear c18
            simp only [Option.some.injEq, Prod.mk.injEq] at H
            obtain ⟨rfl, rfl⟩ := H
            have hcz19_0 : wc.cell? ⟨gb206, 0, none⟩ = some (.int .i64 a0_0) := (blk_cell BK206.out 0).trans rfl
            have hcz19_1 : wc.cell? ⟨gb206, 1, none⟩ = some (.int .i64 a0_1) := (blk_cell BK206.out 1).trans rfl
            have hcz19_2 : wc.cell? ⟨gb206, 2, none⟩ = some (.int .i64 a0_2) := (blk_cell BK206.out 2).trans rfl
            have hcz19_3 : wc.cell? ⟨gb206, 3, none⟩ = some (.int .i64 a0_3) := (blk_cell BK206.out 3).trans rfl
            have hcz19_4 : wc.cell? ⟨gb206, 4, none⟩ = some (.int .i64 a0_4) := (blk_cell BK206.out 4).trans rfl
            have hcz19_5 : wc.cell? ⟨gb206, 5, none⟩ = some (.bool a0_5) := (blk_cell BK206.out 5).trans rfl
            have hcz19_6 : wc.cell? ⟨gb206, 6, none⟩ = some (.bool a0_6) := (blk_cell BK206.out 6).trans rfl
            have hfz19_0 := blk_frozen BK206.out 0
            have hfz19_1 := blk_frozen BK206.out 1
            have hfz19_2 := blk_frozen BK206.out 2
            have hfz19_3 := blk_frozen BK206.out 3
            have hfz19_4 := blk_frozen BK206.out 4
            have hfz19_5 := blk_frozen BK206.out 5
            have hfz19_6 := blk_frozen BK206.out 6
            go_wp2
            go_ret2
            exact ⟨by first | rfl | (simp [errW_none, errW_some] <;> rfl) | (simp [*, errW_none, errW_some] <;> rfl), by repeat (first | (with_reducible first | exact HB.out | apply below_alloc | apply pw_below_drewN | apply below_drew1 | refine below_set ?_ GE206.out) | exact HB.out)⟩
          · rw [if_neg c18] at H
            have c18b0 : (a0_0 == 2) = false := beq_eq_false_iff_ne.mpr c18
            have c18b1 : (a0_0 != 2) = true := bne_iff_ne.mpr c18
            by_cases c20 : a0_0 = 3
            · rw [if_pos c20] at H
              have c20b0 : (a0_0 == 3) = true := beq_iff_eq.mpr c20
              have c20b1 : (a0_0 != 3) = false := bne_eq_false_iff_eq.mpr c20
              clear c20
              simp only [Option.some.injEq, Prod.mk.injEq] at H
              obtain ⟨rfl, rfl⟩ := H
              have hcz21_0 : wc.cell? ⟨gb206, 0, none⟩ = some (.int .i64 a0_0) := (blk_cell BK206.out 0).trans rfl
              have hcz21_1 : wc.cell? ⟨gb206, 1, none⟩ = some (.int .i64 a0_1) := (blk_cell BK206.out 1).trans rfl
              have hcz21_2 : wc.cell? ⟨gb206, 2, none⟩ = some (.int .i64 a0_2) := (blk_cell BK206.out 2).trans rfl
              have hcz21_3 : wc.cell? ⟨gb206, 3, none⟩ = some (.int .i64 a0_3) := (blk_cell BK206.out 3).trans rfl
              have hcz21_4 : wc.cell? ⟨gb206, 4, none⟩ = some (.int .i64 a0_4) := (blk_cell BK206.out 4).trans rfl
              have hcz21_5 : wc.cell? ⟨gb206, 5, none⟩ = some (.bool a0_5) := (blk_cell BK206.out 5).trans rfl
              have hcz21_6 : wc.cell? ⟨gb206, 6, none⟩ = some (.bool a0_6) := (blk_cell BK206.out 6).trans rfl
              have hfz21_0 := blk_frozen BK206.out 0
              have hfz21_1 := blk_frozen BK206.out 1
              have hfz21_2 := blk_frozen BK206.out 2
              have hfz21_3 := blk_frozen BK206.out 3
              have hfz21_4 := blk_frozen BK206.out 4
              have hfz21_5 := blk_frozen BK206.out 5
              have hfz21_6 := blk_frozen BK206.out 6
              go_wp2
              go_ret2
              exact ⟨by first | rfl | (simp [errW_none, errW_some] <;> rfl) | (simp [*, errW_none, errW_some] <;> rfl), by repeat (first | (with_reducible first | exact HB.out | apply below_alloc | apply pw_below_drewN | apply below_drew1 | refine below_set ?_ GE206.out) | exact HB.out)⟩
            · rw [if_neg c20] at H
              have c20b0 : (a0_0 == 3) = false := beq_eq_false_iff_ne.mpr c20
              have c20b1 : (a0_0 != 3) = true := bne_iff_ne.mpr c20
              by_cases c22 : a0_0 = 4
              · rw [if_pos c22] at H
                have c22b0 : (a0_0 == 4) = true := beq_iff_eq.mpr c22
                have c22b1 : (a0_0 != 4) = false := bne_eq_false_iff_eq.mpr c22
                clear c22
                simp only [Option.some.injEq, Prod.mk.injEq] at H
                obtain ⟨rfl, rfl⟩ := H
                have hcz23_0 : wc.cell? ⟨gb206, 0, none⟩ = some (.int .i64 a0_0) := (blk_cell BK206.out 0).trans rfl
                have hcz23_1 : wc.cell? ⟨gb206, 1, none⟩ = some (.int .i64 a0_1) := (blk_cell BK206.out 1).trans rfl
                have hcz23_2 : wc.cell? ⟨gb206, 2, none⟩ = some (.int .i64 a0_2) := (blk_cell BK206.out 2).trans rfl
                have hcz23_3 : wc.cell? ⟨gb206, 3, none⟩ = some (.int .i64 a0_3) := (blk_cell BK206.out 3).trans rfl
                have hcz23_4 : wc.cell? ⟨gb206, 4, none⟩ = some (.int .i64 a0_4) := (blk_cell BK206.out 4).trans rfl
                have hcz23_5 : wc.cell? ⟨gb206, 5, none⟩ = some (.bool a0_5) := (blk_cell BK206.out 5).trans rfl
                have hcz23_6 : wc.cell? ⟨gb206, 6, none⟩ = some (.bool a0_6) := (blk_cell BK206.out 6).trans rfl
                have hfz23_0 := blk_frozen BK206.out 0
                have hfz23_1 := blk_frozen BK206.out 1
                have hfz23_2 := blk_frozen BK206.out 2
                have hfz23_3 := blk_frozen BK206.out 3
                have hfz23_4 := blk_frozen BK206.out 4
                have hfz23_5 := blk_frozen BK206.out 5
                have hfz23_6 := blk_frozen BK206.out 6
                go_wp2
                go_ret2
                exact ⟨by first | rfl | (simp [errW_none, errW_some] <;> rfl) | (simp [*, errW_none, errW_some] <;> rfl), by repeat (first | (with_reducible first | exact HB.out | apply below_alloc | apply pw_below_drewN | apply below_drew1 | refine below_set ?_ GE206.out) | exact HB.out)⟩
              · rw [if_neg c22] at H
                have c22b0 : (a0_0 == 4) = false := beq_eq_false_iff_ne.mpr c22
                have c22b1 : (a0_0 != 4) = true := bne_iff_ne.mpr c22
                replace H := Option.bind_eq_some_iff.mp H
                obtain ⟨⟨t212, t213⟩, A240, H⟩ := H
                replace H : (if t213 = true then (some (t212, 0)) else ((postbagref04_narrow.f kj7 a0_0 a2 x11_7).bind fun bt214 => (if bt214.2 = true then (some (bt214.1, 0)) else ((postbagref04_many.f kj7 a0_0 a2 a3).bind fun bt216 => (if bt216.2 = true then (some (bt216.1, 0)) else (some (0, 80))))))) = some (r1, r2) := H
                have A24 := Aside0.mk A240
                clear A240
                by_cases c25 : t213 = true
                · subst c25
                  have H1 : (some (t212, 0)) = some (r1, r2) := by rw [if_pos rfl] at H; exact H
                  clear H
                  have H := H1
                  clear H1
                  simp only [Option.some.injEq, Prod.mk.injEq] at H
                  obtain ⟨rfl, rfl⟩ := H
                  have hcz26_0 : wc.cell? ⟨gb206, 0, none⟩ = some (.int .i64 a0_0) := (blk_cell BK206.out 0).trans rfl
                  have hcz26_1 : wc.cell? ⟨gb206, 1, none⟩ = some (.int .i64 a0_1) := (blk_cell BK206.out 1).trans rfl
                  have hcz26_2 : wc.cell? ⟨gb206, 2, none⟩ = some (.int .i64 a0_2) := (blk_cell BK206.out 2).trans rfl
                  have hcz26_3 : wc.cell? ⟨gb206, 3, none⟩ = some (.int .i64 a0_3) := (blk_cell BK206.out 3).trans rfl
                  have hcz26_4 : wc.cell? ⟨gb206, 4, none⟩ = some (.int .i64 a0_4) := (blk_cell BK206.out 4).trans rfl
                  have hcz26_5 : wc.cell? ⟨gb206, 5, none⟩ = some (.bool a0_5) := (blk_cell BK206.out 5).trans rfl
                  have hcz26_6 : wc.cell? ⟨gb206, 6, none⟩ = some (.bool a0_6) := (blk_cell BK206.out 6).trans rfl
                  have hfz26_0 := blk_frozen BK206.out 0
                  have hfz26_1 := blk_frozen BK206.out 1
                  have hfz26_2 := blk_frozen BK206.out 2
                  have hfz26_3 := blk_frozen BK206.out 3
                  have hfz26_4 := blk_frozen BK206.out 4
                  have hfz26_5 := blk_frozen BK206.out 5
                  have hfz26_6 := blk_frozen BK206.out 6
                  go_wp2_with (first | ((with_reducible refine gate_callee (f := 34) rfl ?_); refine goesL_ (some 47) rfl rfl Try.func34 (by kernel_rfl) rfl #[.int .i64 a0_0, .int .u64 a2, .int .u64 x11_7] rfl (by (try simp only [List.map_toArray, List.map_cons, List.map_nil]); first | done | rfl | (simp only [List.length_drop, List.length_take]; rfl)) ?_; (with_reducible refine (postbagref04_plain.calls kj7 a0_0 a2 x11_7 t212 true _ A24.out).mono ?_); rintro e w' ⟨rfl, ⟨nd, rfl⟩⟩; refine ⟨_, rfl, ?_⟩))
                  go_ret2
                  exact ⟨by first | rfl | (simp [errW_none, errW_some] <;> rfl) | (simp [*, errW_none, errW_some] <;> rfl), by repeat (first | (with_reducible first | exact HB.out | apply below_alloc | apply pw_below_drewN | apply below_drew1 | refine below_set ?_ GE206.out) | exact HB.out)⟩
                · replace c25 := Bool.eq_false_iff.mpr c25
                  subst c25
                  have H1 : ((postbagref04_narrow.f kj7 a0_0 a2 x11_7).bind fun bt214 => (if bt214.2 = true then (some (bt214.1, 0)) else ((postbagref04_many.f kj7 a0_0 a2 a3).bind fun bt216 => (if bt216.2 = true then (some (bt216.1, 0)) else (some (0, 80)))))) = some (r1, r2) := by rw [if_neg (show ¬ (false = true) by decide)] at H; exact H
                  clear H
                  have H := H1
                  clear H1
                  replace H := Option.bind_eq_some_iff.mp H
                  obtain ⟨⟨t214, t215⟩, A270, H⟩ := H
                  replace H : (if t215 = true then (some (t214, 0)) else ((postbagref04_many.f kj7 a0_0 a2 a3).bind fun bt216 => (if bt216.2 = true then (some (bt216.1, 0)) else (some (0, 80))))) = some (r1, r2) := H
                  have A27 := Aside0.mk A270
                  clear A270
                  by_cases c28 : t215 = true
                  · subst c28
                    have H1 : (some (t214, 0)) = some (r1, r2) := by rw [if_pos rfl] at H; exact H
                    clear H
                    have H := H1
                    clear H1
                    simp only [Option.some.injEq, Prod.mk.injEq] at H
                    obtain ⟨rfl, rfl⟩ := H
                    have hcz29_0 : wc.cell? ⟨gb206, 0, none⟩ = some (.int .i64 a0_0) := (blk_cell BK206.out 0).trans rfl
                    have hcz29_1 : wc.cell? ⟨gb206, 1, none⟩ = some (.int .i64 a0_1) := (blk_cell BK206.out 1).trans rfl
                    have hcz29_2 : wc.cell? ⟨gb206, 2, none⟩ = some (.int .i64 a0_2) := (blk_cell BK206.out 2).trans rfl
                    have hcz29_3 : wc.cell? ⟨gb206, 3, none⟩ = some (.int .i64 a0_3) := (blk_cell BK206.out 3).trans rfl
                    have hcz29_4 : wc.cell? ⟨gb206, 4, none⟩ = some (.int .i64 a0_4) := (blk_cell BK206.out 4).trans rfl
                    have hcz29_5 : wc.cell? ⟨gb206, 5, none⟩ = some (.bool a0_5) := (blk_cell BK206.out 5).trans rfl
                    have hcz29_6 : wc.cell? ⟨gb206, 6, none⟩ = some (.bool a0_6) := (blk_cell BK206.out 6).trans rfl
                    have hfz29_0 := blk_frozen BK206.out 0
                    have hfz29_1 := blk_frozen BK206.out 1
                    have hfz29_2 := blk_frozen BK206.out 2
                    have hfz29_3 := blk_frozen BK206.out 3
                    have hfz29_4 := blk_frozen BK206.out 4
                    have hfz29_5 := blk_frozen BK206.out 5
                    have hfz29_6 := blk_frozen BK206.out 6
                    go_wp2_with (first | ((with_reducible refine gate_callee (f := 34) rfl ?_); refine goesL_ (some 47) rfl rfl Try.func34 (by kernel_rfl) rfl #[.int .i64 a0_0, .int .u64 a2, .int .u64 x11_7] rfl (by (try simp only [List.map_toArray, List.map_cons, List.map_nil]); first | done | rfl | (simp only [List.length_drop, List.length_take]; rfl)) ?_; (with_reducible refine (postbagref04_plain.calls kj7 a0_0 a2 x11_7 t212 false _ A24.out).mono ?_); rintro e w' ⟨rfl, ⟨nd, rfl⟩⟩; refine ⟨_, rfl, ?_⟩) | ((with_reducible refine gate_callee (f := 35) rfl ?_); refine goesL_ (some 57) rfl rfl Try.func35 (by kernel_rfl) rfl #[.int .i64 a0_0, .int .u64 a2, .int .u64 x11_7] rfl (by (try simp only [List.map_toArray, List.map_cons, List.map_nil]); first | done | rfl | (simp only [List.length_drop, List.length_take]; rfl)) ?_; (with_reducible refine (postbagref04_narrow.calls kj7 a0_0 a2 x11_7 t214 true _ A27.out).mono ?_); rintro e w' ⟨rfl, ⟨nd, rfl⟩⟩; refine ⟨_, rfl, ?_⟩))
                    go_ret2
                    exact ⟨by first | rfl | (simp [errW_none, errW_some] <;> rfl) | (simp [*, errW_none, errW_some] <;> rfl), by repeat (first | (with_reducible first | exact HB.out | apply below_alloc | apply pw_below_drewN | apply below_drew1 | refine below_set ?_ GE206.out) | exact HB.out)⟩
                  · replace c28 := Bool.eq_false_iff.mpr c28
                    subst c28
                    have H1 : ((postbagref04_many.f kj7 a0_0 a2 a3).bind fun bt216 => (if bt216.2 = true then (some (bt216.1, 0)) else (some (0, 80)))) = some (r1, r2) := by rw [if_neg (show ¬ (false = true) by decide)] at H; exact H
                    clear H
                    have H := H1
                    clear H1
                    replace H := Option.bind_eq_some_iff.mp H
                    obtain ⟨⟨t216, t217⟩, A300, H⟩ := H
                    replace H : (if t217 = true then (some (t216, 0)) else (some (0, 80))) = some (r1, r2) := H
                    have A30 := Aside0.mk A300
                    clear A300
                    by_cases c31 : t217 = true
                    · subst c31
                      have H1 : (some (t216, 0)) = some (r1, r2) := by rw [if_pos rfl] at H; exact H
                      clear H
                      have H := H1
                      clear H1
                      simp only [Option.some.injEq, Prod.mk.injEq] at H
                      obtain ⟨rfl, rfl⟩ := H
                      have hcz32_0 : wc.cell? ⟨gb206, 0, none⟩ = some (.int .i64 a0_0) := (blk_cell BK206.out 0).trans rfl
                      have hcz32_1 : wc.cell? ⟨gb206, 1, none⟩ = some (.int .i64 a0_1) := (blk_cell BK206.out 1).trans rfl
                      have hcz32_2 : wc.cell? ⟨gb206, 2, none⟩ = some (.int .i64 a0_2) := (blk_cell BK206.out 2).trans rfl
                      have hcz32_3 : wc.cell? ⟨gb206, 3, none⟩ = some (.int .i64 a0_3) := (blk_cell BK206.out 3).trans rfl
                      have hcz32_4 : wc.cell? ⟨gb206, 4, none⟩ = some (.int .i64 a0_4) := (blk_cell BK206.out 4).trans rfl
                      have hcz32_5 : wc.cell? ⟨gb206, 5, none⟩ = some (.bool a0_5) := (blk_cell BK206.out 5).trans rfl
                      have hcz32_6 : wc.cell? ⟨gb206, 6, none⟩ = some (.bool a0_6) := (blk_cell BK206.out 6).trans rfl
                      have hfz32_0 := blk_frozen BK206.out 0
                      have hfz32_1 := blk_frozen BK206.out 1
                      have hfz32_2 := blk_frozen BK206.out 2
                      have hfz32_3 := blk_frozen BK206.out 3
                      have hfz32_4 := blk_frozen BK206.out 4
                      have hfz32_5 := blk_frozen BK206.out 5
                      have hfz32_6 := blk_frozen BK206.out 6
                      go_wp2_with (first | ((with_reducible refine gate_callee (f := 34) rfl ?_); refine goesL_ (some 47) rfl rfl Try.func34 (by kernel_rfl) rfl #[.int .i64 a0_0, .int .u64 a2, .int .u64 x11_7] rfl (by (try simp only [List.map_toArray, List.map_cons, List.map_nil]); first | done | rfl | (simp only [List.length_drop, List.length_take]; rfl)) ?_; (with_reducible refine (postbagref04_plain.calls kj7 a0_0 a2 x11_7 t212 false _ A24.out).mono ?_); rintro e w' ⟨rfl, ⟨nd, rfl⟩⟩; refine ⟨_, rfl, ?_⟩) | ((with_reducible refine gate_callee (f := 35) rfl ?_); refine goesL_ (some 57) rfl rfl Try.func35 (by kernel_rfl) rfl #[.int .i64 a0_0, .int .u64 a2, .int .u64 x11_7] rfl (by (try simp only [List.map_toArray, List.map_cons, List.map_nil]); first | done | rfl | (simp only [List.length_drop, List.length_take]; rfl)) ?_; (with_reducible refine (postbagref04_narrow.calls kj7 a0_0 a2 x11_7 t214 false _ A27.out).mono ?_); rintro e w' ⟨rfl, ⟨nd, rfl⟩⟩; refine ⟨_, rfl, ?_⟩) | ((with_reducible refine gate_callee (f := 36) rfl ?_); refine goesL_ (some 67) rfl rfl Try.func36 (by kernel_rfl) rfl #[.int .i64 a0_0, .int .u64 a2, .int .u64 a3] rfl (by (try simp only [List.map_toArray, List.map_cons, List.map_nil]); first | done | rfl | (simp only [List.length_drop, List.length_take]; rfl)) ?_; (with_reducible refine (postbagref04_many.calls kj7 a0_0 a2 a3 t216 true _ A30.out).mono ?_); rintro e w' ⟨rfl, ⟨nd, rfl⟩⟩; refine ⟨_, rfl, ?_⟩))
                      go_ret2
                      exact ⟨by first | rfl | (simp [errW_none, errW_some] <;> rfl) | (simp [*, errW_none, errW_some] <;> rfl), by repeat (first | (with_reducible first | exact HB.out | apply below_alloc | apply pw_below_drewN | apply below_drew1 | refine below_set ?_ GE206.out) | exact HB.out)⟩
                    · replace c31 := Bool.eq_false_iff.mpr c31
                      subst c31
                      have H1 : (some (0, 80)) = some (r1, r2) := by rw [if_neg (show ¬ (false = true) by decide)] at H; exact H
                      clear H
                      have H := H1
                      clear H1
                      simp only [Option.some.injEq, Prod.mk.injEq] at H
                      obtain ⟨rfl, rfl⟩ := H
                      have hcz33_0 : wc.cell? ⟨gb206, 0, none⟩ = some (.int .i64 a0_0) := (blk_cell BK206.out 0).trans rfl
                      have hcz33_1 : wc.cell? ⟨gb206, 1, none⟩ = some (.int .i64 a0_1) := (blk_cell BK206.out 1).trans rfl
                      have hcz33_2 : wc.cell? ⟨gb206, 2, none⟩ = some (.int .i64 a0_2) := (blk_cell BK206.out 2).trans rfl
                      have hcz33_3 : wc.cell? ⟨gb206, 3, none⟩ = some (.int .i64 a0_3) := (blk_cell BK206.out 3).trans rfl
                      have hcz33_4 : wc.cell? ⟨gb206, 4, none⟩ = some (.int .i64 a0_4) := (blk_cell BK206.out 4).trans rfl
                      have hcz33_5 : wc.cell? ⟨gb206, 5, none⟩ = some (.bool a0_5) := (blk_cell BK206.out 5).trans rfl
                      have hcz33_6 : wc.cell? ⟨gb206, 6, none⟩ = some (.bool a0_6) := (blk_cell BK206.out 6).trans rfl
                      have hfz33_0 := blk_frozen BK206.out 0
                      have hfz33_1 := blk_frozen BK206.out 1
                      have hfz33_2 := blk_frozen BK206.out 2
                      have hfz33_3 := blk_frozen BK206.out 3
                      have hfz33_4 := blk_frozen BK206.out 4
                      have hfz33_5 := blk_frozen BK206.out 5
                      have hfz33_6 := blk_frozen BK206.out 6
                      go_wp2_with (first | ((with_reducible refine gate_callee (f := 34) rfl ?_); refine goesL_ (some 47) rfl rfl Try.func34 (by kernel_rfl) rfl #[.int .i64 a0_0, .int .u64 a2, .int .u64 x11_7] rfl (by (try simp only [List.map_toArray, List.map_cons, List.map_nil]); first | done | rfl | (simp only [List.length_drop, List.length_take]; rfl)) ?_; (with_reducible refine (postbagref04_plain.calls kj7 a0_0 a2 x11_7 t212 false _ A24.out).mono ?_); rintro e w' ⟨rfl, ⟨nd, rfl⟩⟩; refine ⟨_, rfl, ?_⟩) | ((with_reducible refine gate_callee (f := 35) rfl ?_); refine goesL_ (some 57) rfl rfl Try.func35 (by kernel_rfl) rfl #[.int .i64 a0_0, .int .u64 a2, .int .u64 x11_7] rfl (by (try simp only [List.map_toArray, List.map_cons, List.map_nil]); first | done | rfl | (simp only [List.length_drop, List.length_take]; rfl)) ?_; (with_reducible refine (postbagref04_narrow.calls kj7 a0_0 a2 x11_7 t214 false _ A27.out).mono ?_); rintro e w' ⟨rfl, ⟨nd, rfl⟩⟩; refine ⟨_, rfl, ?_⟩) | ((with_reducible refine gate_callee (f := 36) rfl ?_); refine goesL_ (some 67) rfl rfl Try.func36 (by kernel_rfl) rfl #[.int .i64 a0_0, .int .u64 a2, .int .u64 a3] rfl (by (try simp only [List.map_toArray, List.map_cons, List.map_nil]); first | done | rfl | (simp only [List.length_drop, List.length_take]; rfl)) ?_; (with_reducible refine (postbagref04_many.calls kj7 a0_0 a2 a3 t216 false _ A30.out).mono ?_); rintro e w' ⟨rfl, ⟨nd, rfl⟩⟩; refine ⟨_, rfl, ?_⟩))
                      go_ret2
                      exact ⟨by first | rfl | (simp [errW_none, errW_some] <;> rfl) | (simp [*, errW_none, errW_some] <;> rfl), by repeat (first | (with_reducible first | exact HB.out | apply below_alloc | apply pw_below_drewN | apply below_drew1 | refine below_set ?_ GE206.out) | exact HB.out)⟩
  · replace c6 := Bool.eq_false_iff.mpr c6
    subst c6
    have H1 : (some (0, 20)) = some (r1, r2) := by rw [if_neg (show ¬ (false = true) by decide)] at H; exact H
    clear H
    have H := H1
    clear H1
    simp only [Option.some.injEq, Prod.mk.injEq] at H
    obtain ⟨rfl, rfl⟩ := H
    go_enter Try.func11, Try.ntmps11
    go_wp2_with (first | ((with_reducible refine gate_dst (N := 4) rfl ?_); refine box_event ?hg (N := 4) ?hd (cs := #[.int .i64 a0_0, .int .i64 a0_1, .int .i64 a0_2, .int .i64 a0_3, .int .i64 a0_4, .bool a0_5, .bool a0_6]) (t := 23) ?hr ?_; (case hd => rfl); (case hg => rfl); (case hr => first | (go_simp; done) | (go_simp; rfl)); intro gb206 hg w34 hbox hb; have n0_ := Aside0.mk (below_step (by repeat (first | (with_reducible first | exact HB.out | apply below_alloc | apply pw_below_drewN | apply below_drew1) | exact HB.out)) hb); have n1_ := Aside0.mk (hbox); have n2_ := Aside0.mk ((by rw [hg]; exact (below_size (by repeat (first | (with_reducible first | exact HB.out | apply below_alloc | apply pw_below_drewN | apply below_drew1) | exact HB.out))) : w.heap.size ≤ gb206)); have n3_ := Aside0.mk ((by rw [hg]; exact (below_size (by repeat (first | (with_reducible first | exact HB.out | apply below_alloc | apply pw_below_drewN | apply below_drew1) | exact HB.out))) : w.heap.size ≤ gb206)); clear HB; have HB := n0_; have BK206 := n1_; have GW206 := n2_; have GE206 := n3_; clear n0_ n1_ n2_ n3_; clear hb hbox hg; have hcz35_0 : w34.cell? ⟨gb206, 0, none⟩ = some (.int .i64 a0_0) := (blk_cell BK206.out 0).trans rfl; have hcz35_1 : w34.cell? ⟨gb206, 1, none⟩ = some (.int .i64 a0_1) := (blk_cell BK206.out 1).trans rfl; have hcz35_2 : w34.cell? ⟨gb206, 2, none⟩ = some (.int .i64 a0_2) := (blk_cell BK206.out 2).trans rfl; have hcz35_3 : w34.cell? ⟨gb206, 3, none⟩ = some (.int .i64 a0_3) := (blk_cell BK206.out 3).trans rfl; have hcz35_4 : w34.cell? ⟨gb206, 4, none⟩ = some (.int .i64 a0_4) := (blk_cell BK206.out 4).trans rfl; have hcz35_5 : w34.cell? ⟨gb206, 5, none⟩ = some (.bool a0_5) := (blk_cell BK206.out 5).trans rfl; have hcz35_6 : w34.cell? ⟨gb206, 6, none⟩ = some (.bool a0_6) := (blk_cell BK206.out 6).trans rfl; have hfz35_0 := blk_frozen BK206.out 0; have hfz35_1 := blk_frozen BK206.out 1; have hfz35_2 := blk_frozen BK206.out 2; have hfz35_3 := blk_frozen BK206.out 3; have hfz35_4 := blk_frozen BK206.out 4; have hfz35_5 := blk_frozen BK206.out 5; have hfz35_6 := blk_frozen BK206.out 6) | ((with_reducible refine gate_callee (f := 32) rfl ?_); refine goesL_ (some 15) rfl rfl Try.func32 (by kernel_rfl) rfl #[.agg #[.int .i64 a0_0, .int .i64 a0_1, .int .i64 a0_2, .int .i64 a0_3, .int .i64 a0_4, .bool a0_5, .bool a0_6]] rfl (by (try simp only [List.map_toArray, List.map_cons, List.map_nil]); first | done | rfl | (simp only [List.length_drop, List.length_take]; rfl)) ?_; (with_reducible refine (postbagref02_Good.calls a0_0 a0_1 a0_2 a0_3 a0_4 a0_5 a0_6 false _ A5.out).mono ?_); rintro e w36 ⟨rfl, hb⟩; refine ⟨_, rfl, ?_⟩; have n0_ := Aside0.mk (blk_below (g := gb206) (o := .cells #[.int .i64 a0_0, .int .i64 a0_1, .int .i64 a0_2, .int .i64 a0_3, .int .i64 a0_4, .bool a0_5, .bool a0_6] 23 (0, 0)) (by (with_reducible repeat (first | refine blk_drewN ?_ _ | refine blk_drew ?_ | refine blk_alloc ?_ _)); exact BK206.out) hb); have n1_ := Aside0.mk (below_step (by repeat (first | (with_reducible first | exact HB.out | apply below_alloc | apply pw_below_drewN | apply below_drew1 | refine below_set ?_ GE206.out) | exact HB.out)) hb); clear BK206; clear HB; have BK206 := n0_; have HB := n1_; clear n0_ n1_; (try clear hb); (try clear hb2); (try clear hk); (try clear hi)))
    go_ret2
    exact ⟨by first | rfl | (simp [errW_none, errW_some] <;> rfl) | (simp [*, errW_none, errW_some] <;> rfl), by repeat (first | (with_reducible first | exact HB.out | apply below_alloc | apply pw_below_drewN | apply below_drew1 | refine below_set ?_ GE206.out) | exact HB.out)⟩

end Go.Proofs.Ytjdidadafccepaa.PAll
