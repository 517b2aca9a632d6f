/- DERIVED. The contracts of the Go functions that one law reaches: each call returns what the plain function beside it says, under that theorem's own premises. Written by a program (hp.py) over the kit's printed words. -/
import Derived.Test.YtihcljaphajdfaaGreatDoorPAllx0
import Derived.Test.YtihcljaphajdfaaGreatDoorPAllx1
import Derived.Test.YtihcljaphajdfaaGreatDoorPAllx2
import Derived.Test.YtihcljaphajdfaaGreatDoorPAllx3
namespace Go.Proofs.YtihcljaphajdfaaGreatDoor.PAll
open Go.RowKit Go.Proofs.YtihcljaphajdfaaGreatDoorW.PrintWords Go.Proofs.YtihcljaphajdfaaGreatDoorW.PrintLast Go.Proofs.YtihcljaphajdfaaGreatDoorW.PrintMore Go.Proofs.YtihcljaphajdfaaGreatDoor.M
attribute [local go_sem] max2_int min2_int max_two min_two max_three min_three max_four min_four   -- for this text's walks alone
set_option linter.unusedVariables false
set_option linter.unusedSimpArgs false

attribute [local go_sem high] eqA33
/-! ### bits_Sign0: function 72 -/
def bits_Sign0.f (a0 : Int) (a1 : Int) : Option (Int) := if a1 < 1 then (some a0) else (if a1 ≥ 64 then (some a0) else (if 0 ≤ (wrap64 (64 - a1)) then (some (IntKind.u64.wrap (shr .i64 (wrap64 (shl .u64 a0 (wrap64 (64 - a1)))) (wrap64 (64 - a1))))) else (none)))
set_option maxHeartbeats 8000000 in
set_option maxRecDepth 100000 in
theorem bits_Sign0.calls (a0 : Int) (a1 : Int) (r : Int) (w : World) (h : bits_Sign0.f a0 a1 = some r) :
    Calls Tryz.prog 72 #[.int .u64 a0, .int .i64 a1] w fun e w' => e = .returned (.int .u64 r) ∧ Drawn0 w w' := by
  have H : (if a1 < 1 then (some a0) else (if a1 ≥ 64 then (some a0) else (if 0 ≤ (wrap64 (64 - a1)) then (some (IntKind.u64.wrap (shr .i64 (wrap64 (shl .u64 a0 (wrap64 (64 - a1)))) (wrap64 (64 - a1))))) else (none)))) = some r := h
  clear h
  by_cases c3 : a1 < 1
  · rw [if_pos c3] at H
    have c3b0 : decide (a1 < 1) = true := decide_eq_true c3
    clear c3
    obtain rfl := Option.some.inj H
    go_enter Tryz.func72, Tryz.ntmps72
    go_wp2
    go_ret
    exact ⟨by first | rfl | (simp; done) | (simp [*]; done), by repeat (first | exact Drawn0.refl _ | apply Drawn0.step)⟩
  · rw [if_neg c3] at H
    have c3b0 : decide (a1 < 1) = false := decide_eq_false c3
    clear c3
    by_cases c4 : a1 ≥ 64
    · rw [if_pos c4] at H
      have c4b0 : decide (64 ≤ a1) = true := decide_eq_true c4
      clear c4
      obtain rfl := Option.some.inj H
      go_enter Tryz.func72, Tryz.ntmps72
      go_wp2
      go_ret
      exact ⟨by first | rfl | (simp; done) | (simp [*]; done), by repeat (first | exact Drawn0.refl _ | apply Drawn0.step)⟩
    · rw [if_neg c4] at H
      have c4b0 : decide (64 ≤ a1) = false := decide_eq_false c4
      clear c4
      obtain ⟨ji5, hji5⟩ : ∃ j_ : Int, (wrap64 (64 - a1)) = j_ := ⟨_, rfl⟩
      replace H : (if 0 ≤ (ji5) then (some (IntKind.u64.wrap (shr .i64 (wrap64 (shl .u64 a0 (ji5))) (ji5)))) else (none)) = some r := by first | (rw [hji5] at H; exact H) | (simp only [hji5] at H ⊢; exact H)
      have hji5w : (IntKind.i64.wrap (64 - a1)) = ji5 := (i64_w _).trans hji5
      by_cases c6 : 0 ≤ (ji5)
      · rw [if_pos c6] at H
        have c6b0 := eq_true c6
        have c6b1 : decide (0 ≤ (ji5)) = true := decide_eq_true c6
        clear c6
        obtain ⟨ji7, hji7⟩ : ∃ j_ : Int, (shl .u64 a0 (ji5)) = j_ := ⟨_, rfl⟩
        replace H : (some (IntKind.u64.wrap (shr .i64 (wrap64 (ji7)) (ji5)))) = some r := by first | (rw [hji7] at H; exact H) | (simp only [hji7] at H ⊢; exact H)
        have hji7_ : (IntKind.u64.wrap (a0 * 2 ^ min (ji5).toNat 64)) = ji7 := hji7
        have hji7z : (ji5) ≤ 64 → (IntKind.u64.wrap (a0 * 2 ^ (ji5).toNat)) = ji7 := shl_small hji7
        have c8b0 := eq_true (of_decide_eq_true (by first | (with_reducible assumption) | assumption) : 0 ≤ (ji5))
        obtain ⟨ji9, hji9⟩ : ∃ j_ : Int, (shr .i64 (wrap64 (ji7)) (ji5)) = j_ := ⟨_, rfl⟩
        replace H : (some (IntKind.u64.wrap (ji9))) = some r := by first | (rw [hji9] at H; exact H) | (simp only [hji9] at H ⊢; exact H)
        have hji9_ : ((wrap64 (ji7)) / 2 ^ min (ji5).toNat 64) = ji9 := hji9
        have hji9z : (ji5) ≤ 64 → ((wrap64 (ji7)) / 2 ^ (ji5).toNat) = ji9 := shr_small hji9
        obtain rfl := Option.some.inj H
        go_enter Tryz.func72, Tryz.ntmps72
        go_wp2
        go_ret
        exact ⟨by first | rfl | (simp; done) | (simp only [← hji5, ← hji7, ← hji9] <;> (first | rfl | simp)) | (simp [*]; done), by repeat (first | exact Drawn0.refl _ | apply Drawn0.step)⟩
      · rw [if_neg c6] at H
        exact absurd H (by simp)
def bits_Sign.f (a0 : Int) (a1 : Int) : Option (Int) := if U64 a0 then some (signOf a0 a1) else none
theorem bits_Sign.spec (a0 a1 r : Int) (h : bits_Sign.f a0 a1 = some r) : bits_Sign0.f a0 a1 = some r := by
  unfold bits_Sign.f at h
  by_cases hu : U64 a0
  · rw [if_pos hu] at h
    obtain rfl := Option.some.inj h
    unfold bits_Sign0.f
    by_cases h1 : a1 < 1
    · rw [if_pos h1, signOf, if_pos (Or.inl h1)]
    · rw [if_neg h1]
      by_cases h2 : a1 ≥ 64
      · rw [if_pos h2, signOf, if_pos (Or.inr (by omega))]
      · obtain ⟨n, rfl⟩ : ∃ n : Nat, a1 = n := ⟨a1.toNat, by omega⟩
        have e : wrap64 (64 - (n : Int)) = ((64 - n : Nat) : Int) := by rw [I64.wrap_eq (by unfold I64; omega)]; omega
        rw [if_neg h2, e, if_pos (by omega), ← sign_shift a0 hu n (by omega) (by omega)]
        unfold shl shr
        rw [Int.toNat_natCast, Nat.min_eq_left (show 64 - n ≤ IntKind.u64.bits by show _ ≤ 64; omega), Nat.min_eq_left (show 64 - n ≤ IntKind.i64.bits by show _ ≤ 64; omega)]
  · rw [if_neg hu] at h; exact absurd h (by simp)
theorem bits_Sign.eq {a0 : Int} (h : U64 a0) (a1 : Int) : bits_Sign.f a0 a1 = some (signOf a0 a1) := if_pos h


theorem bits_Sign.calls (a0 : Int) (a1 : Int) (r : Int) (w : World) (h : bits_Sign.f a0 a1 = some r) :
    Calls Tryz.prog 72 #[.int .u64 a0, .int .i64 a1] w fun e w' => e = .returned (.int .u64 r) ∧ Drawn0 w w' := by
  have hk := bits_Sign.spec a0 a1 r h
  exact bits_Sign0.calls a0 a1 r w hk

/-! ### bits_Fits0: function 60 -/
def bits_Fits0.f (a0 : Int) (a1 : Int) : Option (Bool) := if a1 ≥ 64 then (some true) else (if a1 ≥ 1 then ((bits_Sign.f (IntKind.u64.wrap (a0)) a1).bind fun t103 => (some (t103 == (IntKind.u64.wrap (a0))))) else (some false))
set_option maxHeartbeats 8000000 in
set_option maxRecDepth 100000 in
theorem bits_Fits0.calls (a0 : Int) (a1 : Int) (r : Bool) (w : World) (h : bits_Fits0.f a0 a1 = some r) :
    Calls Tryz.prog 60 #[.int .i64 a0, .int .i64 a1] w fun e w' => e = .returned (.bool r) ∧ Drawn0 w w' := by
  have H : (if a1 ≥ 64 then (some true) else (if a1 ≥ 1 then ((bits_Sign.f (IntKind.u64.wrap (a0)) a1).bind fun t103 => (some (t103 == (IntKind.u64.wrap (a0))))) else (some false))) = some r := h
  clear h
  by_cases c3 : a1 ≥ 64
  · rw [if_pos c3] at H
    have c3b0 : decide (64 ≤ a1) = true := decide_eq_true c3
    clear c3
    obtain rfl := Option.some.inj H
    go_enter Tryz.func60, Tryz.ntmps60
    go_wp2
    go_ret
    exact ⟨by first | rfl | (simp; done) | (simp [*]; done), by repeat (first | exact Drawn0.refl _ | apply Drawn0.step)⟩
  · rw [if_neg c3] at H
    have c3b0 : decide (64 ≤ a1) = false := decide_eq_false c3
    clear c3
    by_cases c4 : a1 ≥ 1
    · rw [if_pos c4] at H
      have c4b0 : decide (1 ≤ a1) = true := decide_eq_true c4
      clear c4
      replace H := Option.bind_eq_some_iff.mp H
      obtain ⟨t103, A50, H⟩ := H
      replace H : (some (t103 == (IntKind.u64.wrap (a0)))) = some r := H
      have A5 := Aside0.mk A50
      clear A50
      obtain rfl := Option.some.inj H
      go_enter Tryz.func60, Tryz.ntmps60
      go_wp2_with (first | (go_at_call 72; (with_reducible refine (bits_Sign.calls (IntKind.u64.wrap (a0)) a1 t103 _ A5.out).mono ?_); rintro e w' ⟨rfl, ⟨nd, rfl⟩⟩))
      go_ret
      exact ⟨by first | rfl | (simp; done) | (simp [*]; done), by repeat (first | exact Drawn0.refl _ | apply Drawn0.step)⟩
    · rw [if_neg c4] at H
      have c4b0 : decide (1 ≤ a1) = false := decide_eq_false c4
      clear c4
      obtain rfl := Option.some.inj H
      go_enter Tryz.func60, Tryz.ntmps60
      go_wp2
      go_ret
      exact ⟨by first | rfl | (simp; done) | (simp [*]; done), by repeat (first | exact Drawn0.refl _ | apply Drawn0.step)⟩
def bits_Fits.f (a0 : Int) (a1 : Int) : Option (Bool) := if I64 a0 then some (fitsOf a0 a1) else none
theorem bits_Fits.spec (a0 a1 : Int) (r : Bool) (h : bits_Fits.f a0 a1 = some r) : bits_Fits0.f a0 a1 = some r := by
  unfold bits_Fits.f at h
  by_cases hu : I64 a0
  · rw [if_pos hu] at h
    obtain rfl := Option.some.inj h
    unfold bits_Fits0.f
    by_cases h2 : a1 ≥ 64
    · rw [if_pos h2, fitsOf, decide_eq_true ⟨by omega, fun h => by omega⟩]
    · rw [if_neg h2]
      by_cases h1 : a1 ≥ 1
      · obtain ⟨n, rfl⟩ : ∃ n : Nat, a1 = n := ⟨a1.toNat, by omega⟩
        rw [if_pos h1, bits_Sign.eq (U64.wrap _)]
        simp only [Option.bind_some]
        rw [fits_sign a0 hu n (by omega) (by omega)]
      · rw [if_neg h1, fitsOf, decide_eq_false (by omega)]
  · rw [if_neg hu] at h; exact absurd h (by simp)
theorem bits_Fits.eq {a0 : Int} (h : I64 a0) (a1 : Int) : bits_Fits.f a0 a1 = some (fitsOf a0 a1) := if_pos h


theorem bits_Fits.calls (a0 : Int) (a1 : Int) (r : Bool) (w : World) (h : bits_Fits.f a0 a1 = some r) :
    Calls Tryz.prog 60 #[.int .i64 a0, .int .i64 a1] w fun e w' => e = .returned (.bool r) ∧ Drawn0 w w' := by
  have hk := bits_Fits.spec a0 a1 r h
  exact bits_Fits0.calls a0 a1 r w hk

/-! ### inst_may0: function 46 -/
def inst_may0.j0 : Nat → Int → Int → Bool → Option (Bool)
  | 0, _, _, _ => none
  | k + 1, x1, x5, x33 => if x33 = true then ((bits_Fits.f x1 12).bind fun t107 => (some t107)) else (if x5 = 6 then ((inst_within.f x1 63).bind fun t108 => (some t108)) else (if x5 = 7 then ((inst_within.f x1 31).bind fun t109 => (some t109)) else (if x5 = 9 then ((inst_within.f x1 255).bind fun t110 => (some t110)) else (some (x1 == 0)))))
def inst_may0.f (k : Nat) (a0 : Int) (a1 : Int) : Option (Bool) := if a0 = 1 then (if (Int.tmod a1 4096) = 0 then ((bits_Fits.f a1 32).bind fun t104 => (some t104)) else (some false)) else (if a0 = 2 then (if (Int.tmod a1 2) = 0 then ((bits_Fits.f a1 21).bind fun t105 => (some t105)) else (some false)) else (if a0 = 4 then (if (Int.tmod a1 2) = 0 then ((bits_Fits.f a1 13).bind fun t106 => (some t106)) else (some false)) else (if a0 = 3 then (inst_may0.j0 k a1 a0 (a0 == 3)) else (inst_may0.j0 k a1 a0 (a0 == 5)))))
theorem inst_may0.mono_l : ∀ k, (∀ y0 y1 y2, LeO (inst_may0.j0 k y0 y1 y2) (inst_may0.j0 (k + 1) y0 y1 y2))
  | 0 => fun _ _ _ r h => by simp [inst_may0.j0] at h
  | k + 1 => by
    have ih0 := inst_may0.mono_l k
    · intro y0 y1 y2
      unfold inst_may0.j0
      repeat' first
      | (with_reducible exact ih0 _ _ _)
      | (with_reducible exact LeO.refl _)
      | (with_reducible exact LeO.none _)
      | (with_reducible refine LeO.ite ?_ ?_)
      | (with_reducible refine LeO.bind ?_ (fun _ => ?_))
      | exact ih0 _ _ _
      | exact LeO.none _
      | refine LeO.ite ?_ ?_
      | refine LeO.bind ?_ (fun _ => ?_)
theorem inst_may0.mono : ∀ a0 a1 k, LeO (inst_may0.f k a0 a1) (inst_may0.f (k + 1) a0 a1) := by
  intro a0 a1 k
  have ih0 := inst_may0.mono_l k
  unfold inst_may0.f
  repeat' first
      | (with_reducible exact ih0 _ _ _)
      | (with_reducible exact LeO.refl _)
      | (with_reducible exact LeO.none _)
      | (with_reducible refine LeO.ite ?_ ?_)
      | (with_reducible refine LeO.bind ?_ (fun _ => ?_))
      | exact ih0 _ _ _
      | exact LeO.none _
      | refine LeO.ite ?_ ?_
      | refine LeO.bind ?_ (fun _ => ?_)
set_option maxHeartbeats 8000000 in
set_option maxRecDepth 100000 in
theorem inst_may0.calls (k : Nat) (a0 : Int) (a1 : Int) (r : Bool) (w : World) (h : inst_may0.f k a0 a1 = some r) :
    Calls Tryz.prog 46 #[.int .i64 a0, .int .i64 a1] w fun e w' => e = .returned (.bool r) ∧ Drawn0 w w' := by
  have H : (if a0 = 1 then (if (Int.tmod a1 4096) = 0 then ((bits_Fits.f a1 32).bind fun t104 => (some t104)) else (some false)) else (if a0 = 2 then (if (Int.tmod a1 2) = 0 then ((bits_Fits.f a1 21).bind fun t105 => (some t105)) else (some false)) else (if a0 = 4 then (if (Int.tmod a1 2) = 0 then ((bits_Fits.f a1 13).bind fun t106 => (some t106)) else (some false)) else (if a0 = 3 then (inst_may0.j0 k a1 a0 (a0 == 3)) else (inst_may0.j0 k a1 a0 (a0 == 5)))))) = some r := h
  clear h
  by_cases c3 : a0 = 1
  · rw [if_pos c3] at H
    have c3b0 : (a0 == 1) = true := beq_iff_eq.mpr c3
    have c3b1 : (a0 != 1) = false := bne_eq_false_iff_eq.mpr c3
    clear c3
    by_cases c4 : (Int.tmod a1 4096) = 0
    · rw [if_pos c4] at H
      have c4b0 : ((Int.tmod a1 4096) == 0) = true := beq_iff_eq.mpr c4
      have c4b1 : ((Int.tmod a1 4096) != 0) = false := bne_eq_false_iff_eq.mpr c4
      clear c4
      replace H := Option.bind_eq_some_iff.mp H
      obtain ⟨t104, A50, H⟩ := H
      replace H : (some t104) = some r := H
      have A5 := Aside0.mk A50
      clear A50
      obtain rfl := Option.some.inj H
      go_enter Tryz.func46, Tryz.ntmps46
      go_wp2_with (first | (go_at_call 60; (with_reducible refine (bits_Fits.calls a1 32 t104 _ A5.out).mono ?_); rintro e w' ⟨rfl, ⟨nd, rfl⟩⟩))
      go_ret
      exact ⟨by first | rfl | (simp; done) | (simp [*]; done), by repeat (first | exact Drawn0.refl _ | apply Drawn0.step)⟩
    · rw [if_neg c4] at H
      have c4b0 : ((Int.tmod a1 4096) == 0) = false := beq_eq_false_iff_ne.mpr c4
      have c4b1 : ((Int.tmod a1 4096) != 0) = true := bne_iff_ne.mpr c4
      obtain rfl := Option.some.inj H
      go_enter Tryz.func46, Tryz.ntmps46
      go_wp2
      go_ret
      exact ⟨by first | rfl | (simp; done) | (simp [*]; done), by repeat (first | exact Drawn0.refl _ | apply Drawn0.step)⟩
  · rw [if_neg c3] at H
    have c3b0 : (a0 == 1) = false := beq_eq_false_iff_ne.mpr c3
    have c3b1 : (a0 != 1) = true := bne_iff_ne.mpr c3
    by_cases c6 : a0 = 2
    · rw [if_pos c6] at H
      have c6b0 : (a0 == 2) = true := beq_iff_eq.mpr c6
      have c6b1 : (a0 != 2) = false := bne_eq_false_iff_eq.mpr c6
      clear c6
      by_cases c7 : (Int.tmod a1 2) = 0
      · rw [if_pos c7] at H
        have c7b0 : ((Int.tmod a1 2) == 0) = true := beq_iff_eq.mpr c7
        have c7b1 : ((Int.tmod a1 2) != 0) = false := bne_eq_false_iff_eq.mpr c7
        clear c7
        replace H := Option.bind_eq_some_iff.mp H
        obtain ⟨t105, A80, H⟩ := H
        replace H : (some t105) = some r := H
        have A8 := Aside0.mk A80
        clear A80
        obtain rfl := Option.some.inj H
        go_enter Tryz.func46, Tryz.ntmps46
        go_wp2_with (first | (go_at_call 60; (with_reducible refine (bits_Fits.calls a1 21 t105 _ A8.out).mono ?_); rintro e w' ⟨rfl, ⟨nd, rfl⟩⟩))
        go_ret
        exact ⟨by first | rfl | (simp; done) | (simp [*]; done), by repeat (first | exact Drawn0.refl _ | apply Drawn0.step)⟩
      · rw [if_neg c7] at H
        have c7b0 : ((Int.tmod a1 2) == 0) = false := beq_eq_false_iff_ne.mpr c7
        have c7b1 : ((Int.tmod a1 2) != 0) = true := bne_iff_ne.mpr c7
        obtain rfl := Option.some.inj H
        go_enter Tryz.func46, Tryz.ntmps46
        go_wp2
        go_ret
        exact ⟨by first | rfl | (simp; done) | (simp [*]; done), by repeat (first | exact Drawn0.refl _ | apply Drawn0.step)⟩
    · rw [if_neg c6] at H
      have c6b0 : (a0 == 2) = false := beq_eq_false_iff_ne.mpr c6
      have c6b1 : (a0 != 2) = true := bne_iff_ne.mpr c6
      by_cases c9 : a0 = 4
      · rw [if_pos c9] at H
        have c9b0 : (a0 == 4) = true := beq_iff_eq.mpr c9
        have c9b1 : (a0 != 4) = false := bne_eq_false_iff_eq.mpr c9
        clear c9
        by_cases c10 : (Int.tmod a1 2) = 0
        · rw [if_pos c10] at H
          have c10b0 : ((Int.tmod a1 2) == 0) = true := beq_iff_eq.mpr c10
          have c10b1 : ((Int.tmod a1 2) != 0) = false := bne_eq_false_iff_eq.mpr c10
          clear c10
          replace H := Option.bind_eq_some_iff.mp H
          obtain ⟨t106, A110, H⟩ := H
          replace H : (some t106) = some r := H
          have A11 := Aside0.mk A110
          clear A110
          obtain rfl := Option.some.inj H
          go_enter Tryz.func46, Tryz.ntmps46
          go_wp2_with (first | (go_at_call 60; (with_reducible refine (bits_Fits.calls a1 13 t106 _ A11.out).mono ?_); rintro e w' ⟨rfl, ⟨nd, rfl⟩⟩))
          go_ret
          exact ⟨by first | rfl | (simp; done) | (simp [*]; done), by repeat (first | exact Drawn0.refl _ | apply Drawn0.step)⟩
        · rw [if_neg c10] at H
          have c10b0 : ((Int.tmod a1 2) == 0) = false := beq_eq_false_iff_ne.mpr c10
          have c10b1 : ((Int.tmod a1 2) != 0) = true := bne_iff_ne.mpr c10
          obtain rfl := Option.some.inj H
          go_enter Tryz.func46, Tryz.ntmps46
          go_wp2
          go_ret
          exact ⟨by first | rfl | (simp; done) | (simp [*]; done), by repeat (first | exact Drawn0.refl _ | apply Drawn0.step)⟩
      · rw [if_neg c9] at H
        have c9b0 : (a0 == 4) = false := beq_eq_false_iff_ne.mpr c9
        have c9b1 : (a0 != 4) = true := bne_iff_ne.mpr c9
        have HC12 := Aside0.mk H
        clear H
        go_enter Tryz.func46, Tryz.ntmps46
        go_upto_if 33 with (fail)
        go_cut [33] (fun v33 wc => ∃ (kq : Nat) (x33_11 : Bool), v33 = .bool x33_11 ∧ Aside0 (inst_may0.j0 kq a1 a0 x33_11 = some r) ∧ Aside0 (kq ≤ k) ∧ Drawn0 w wc)
        case first =>
          have H := HC12.out
          clear HC12
          by_cases c13 : a0 = 3
          · rw [if_pos c13] at H
            have c13b0 : (a0 == 3) = true := beq_iff_eq.mpr c13
            have c13b1 : (a0 != 3) = false := bne_eq_false_iff_eq.mpr c13
            clear c13
            (first | rw [c13b0] | (simp only [i64_w, i32_w]; rw [c13b0]) | skip)
            have H' := Aside0.mk H
            clear H
            go_wp2
            go_meet
            case rel => exact ⟨_, ((a0 == 3)), (by first | rfl | (simp; done) | (simp [*]; done)), H', ⟨by first | omega | exact Nat.le_refl _⟩, by repeat (first | exact Drawn0.refl _ | apply Drawn0.step)⟩
          · rw [if_neg c13] at H
            have c13b0 : (a0 == 3) = false := beq_eq_false_iff_ne.mpr c13
            have c13b1 : (a0 != 3) = true := bne_iff_ne.mpr c13
            (first | rw [c13b0] | (simp only [i64_w, i32_w]; rw [c13b0]) | skip)
            have H' := Aside0.mk H
            clear H
            go_wp2
            go_meet
            case rel => exact ⟨_, ((a0 == 5)), (by first | rfl | (simp; done) | (simp [*]; done)), H', ⟨by first | omega | exact Nat.le_refl _⟩, by repeat (first | exact Drawn0.refl _ | apply Drawn0.step)⟩
        case rest =>
          clear HC12
          try clear c1
          try clear p2
          try clear c3
          try clear c3b0
          try clear c3b1
          try clear c4
          try clear c4b0
          try clear c4b1
          try clear c6
          try clear c6b0
          try clear c6b1
          try clear c7
          try clear c7b0
          try clear c7b1
          try clear c9
          try clear c9b0
          try clear c9b1
          try clear c10
          try clear c10b0
          try clear c10b1
          try clear c13
          try clear c13b0
          try clear c13b1
          obtain ⟨kq, x33_11, rfl, HA, HJ11, ⟨mc11, rfl⟩⟩ := hcut
          cases kq with
          | zero => exact absurd HA.out (by simp [inst_may0.j0])
          | succ kj11 =>
            have H := HA.out
            clear HA
            simp only [inst_may0.j0] at H
            by_cases c14 : x33_11 = true
            · subst c14
              have H1 : ((bits_Fits.f a1 12).bind fun t107 => (some t107)) = some r := by rw [if_pos rfl] at H; exact H
              clear H
              have H := H1
              clear H1
              replace H := Option.bind_eq_some_iff.mp H
              obtain ⟨t107, A150, H⟩ := H
              replace H : (some t107) = some r := H
              have A15 := Aside0.mk A150
              clear A150
              obtain rfl := Option.some.inj H
              go_wp2_with (first | ((with_reducible refine gate_callee (f := 60) rfl ?_); refine goesL_ (some 37) rfl rfl Tryz.func60 (by kernel_rfl) rfl #[.int .i64 a1, .int .i64 12] rfl (by (try simp only [List.map_toArray, List.map_cons, List.map_nil]); first | done | rfl | (simp only [List.length_drop, List.length_take]; rfl)) ?_; (with_reducible refine (bits_Fits.calls a1 12 t107 _ A15.out).mono ?_); rintro e w' ⟨rfl, ⟨nd, rfl⟩⟩; refine ⟨_, rfl, ?_⟩))
              go_ret
              exact ⟨by first | rfl | (simp; done) | (simp [*]; done), by repeat (first | exact Drawn0.refl _ | apply Drawn0.step)⟩
            · replace c14 := Bool.eq_false_iff.mpr c14
              subst c14
              have H1 : (if a0 = 6 then ((inst_within.f a1 63).bind fun t108 => (some t108)) else (if a0 = 7 then ((inst_within.f a1 31).bind fun t109 => (some t109)) else (if a0 = 9 then ((inst_within.f a1 255).bind fun t110 => (some t110)) else (some (a1 == 0))))) = some r := by rw [if_neg (show ¬ (false = true) by decide)] at H; exact H
              clear H
              have H := H1
              clear H1
              by_cases c16 : a0 = 6
              · rw [if_pos c16] at H
                have c16b0 : (a0 == 6) = true := beq_iff_eq.mpr c16
                have c16b1 : (a0 != 6) = false := bne_eq_false_iff_eq.mpr c16
                clear c16
                replace H := Option.bind_eq_some_iff.mp H
                obtain ⟨t108, A170, H⟩ := H
                replace H : (some t108) = some r := H
                have A17 := Aside0.mk A170
                clear A170
                obtain rfl := Option.some.inj H
                go_wp2_with (first | ((with_reducible refine gate_callee (f := 45) rfl ?_); refine goesL_ (some 41) rfl rfl Tryz.func45 (by kernel_rfl) rfl #[.int .i64 a1, .int .i64 63] rfl (by (try simp only [List.map_toArray, List.map_cons, List.map_nil]); first | done | rfl | (simp only [List.length_drop, List.length_take]; rfl)) ?_; (with_reducible refine (inst_within.calls a1 63 t108 _ A17.out).mono ?_); rintro e w' ⟨rfl, ⟨nd, rfl⟩⟩; refine ⟨_, rfl, ?_⟩))
                go_ret
                exact ⟨by first | rfl | (simp; done) | (simp [*]; done), by repeat (first | exact Drawn0.refl _ | apply Drawn0.step)⟩
              · rw [if_neg c16] at H
                have c16b0 : (a0 == 6) = false := beq_eq_false_iff_ne.mpr c16
                have c16b1 : (a0 != 6) = true := bne_iff_ne.mpr c16
                by_cases c18 : a0 = 7
                · rw [if_pos c18] at H
                  have c18b0 : (a0 == 7) = true := beq_iff_eq.mpr c18
                  have c18b1 : (a0 != 7) = false := bne_eq_false_iff_eq.mpr c18
                  clear c18
                  replace H := Option.bind_eq_some_iff.mp H
                  obtain ⟨t109, A190, H⟩ := H
                  replace H : (some t109) = some r := H
                  have A19 := Aside0.mk A190
                  clear A190
                  obtain rfl := Option.some.inj H
                  go_wp2_with (first | ((with_reducible refine gate_callee (f := 45) rfl ?_); refine goesL_ (some 45) rfl rfl Tryz.func45 (by kernel_rfl) rfl #[.int .i64 a1, .int .i64 31] rfl (by (try simp only [List.map_toArray, List.map_cons, List.map_nil]); first | done | rfl | (simp only [List.length_drop, List.length_take]; rfl)) ?_; (with_reducible refine (inst_within.calls a1 31 t109 _ A19.out).mono ?_); rintro e w' ⟨rfl, ⟨nd, rfl⟩⟩; refine ⟨_, rfl, ?_⟩))
                  go_ret
                  exact ⟨by first | rfl | (simp; done) | (simp [*]; done), by repeat (first | exact Drawn0.refl _ | apply Drawn0.step)⟩
                · rw [if_neg c18] at H
                  have c18b0 : (a0 == 7) = false := beq_eq_false_iff_ne.mpr c18
                  have c18b1 : (a0 != 7) = true := bne_iff_ne.mpr c18
                  by_cases c20 : a0 = 9
                  · rw [if_pos c20] at H
                    have c20b0 : (a0 == 9) = true := beq_iff_eq.mpr c20
                    have c20b1 : (a0 != 9) = false := bne_eq_false_iff_eq.mpr c20
                    clear c20
                    replace H := Option.bind_eq_some_iff.mp H
                    obtain ⟨t110, A210, H⟩ := H
                    replace H : (some t110) = some r := H
                    have A21 := Aside0.mk A210
                    clear A210
                    obtain rfl := Option.some.inj H
                    go_wp2_with (first | ((with_reducible refine gate_callee (f := 45) rfl ?_); refine goesL_ (some 49) rfl rfl Tryz.func45 (by kernel_rfl) rfl #[.int .i64 a1, .int .i64 255] rfl (by (try simp only [List.map_toArray, List.map_cons, List.map_nil]); first | done | rfl | (simp only [List.length_drop, List.length_take]; rfl)) ?_; (with_reducible refine (inst_within.calls a1 255 t110 _ A21.out).mono ?_); rintro e w' ⟨rfl, ⟨nd, rfl⟩⟩; refine ⟨_, rfl, ?_⟩))
                    go_ret
                    exact ⟨by first | rfl | (simp; done) | (simp [*]; done), by repeat (first | exact Drawn0.refl _ | apply Drawn0.step)⟩
                  · rw [if_neg c20] at H
                    have c20b0 : (a0 == 9) = false := beq_eq_false_iff_ne.mpr c20
                    have c20b1 : (a0 != 9) = true := bne_iff_ne.mpr c20
                    obtain rfl := Option.some.inj H
                    go_wp2
                    go_ret
                    exact ⟨by first | rfl | (simp; done) | (simp [*]; done), by repeat (first | exact Drawn0.refl _ | apply Drawn0.step)⟩
def inst_may.f (a0 : Int) (a1 : Int) : Option (Bool) := if I64 a1 then some (immOf a0 a1) else none
theorem inst_may.spec (a0 a1 : Int) (r : Bool) (h : inst_may.f a0 a1 = some r) : ∃ k, inst_may0.f k a0 a1 = some r := by
  unfold inst_may.f at h
  by_cases hI : I64 a1
  · rw [if_pos hI] at h
    obtain rfl := Option.some.inj h
    refine ⟨1, ?_⟩
    unfold inst_may0.f
    simp only [inst_may0.j0, bits_Fits.f, if_pos hI, inst_within.f, Option.bind_some, tmod0, immOf, beq_iff_eq]
    repeat' split
    all_goals simp_all
    all_goals omega
  · rw [if_neg hI] at h; exact absurd h (by simp)

theorem inst_may.calls (a0 : Int) (a1 : Int) (r : Bool) (w : World) (h : inst_may.f a0 a1 = some r) :
    Calls Tryz.prog 46 #[.int .i64 a0, .int .i64 a1] w fun e w' => e = .returned (.bool r) ∧ Drawn0 w w' := by
  obtain ⟨k, hk⟩ := inst_may.spec a0 a1 r h
  exact inst_may0.calls k a0 a1 r w hk

/-! ### inst_Good: function 24 -/
set_option maxHeartbeats 2000000 in
theorem inst_Good.w (a0_0 a0_1 a0_2 a0_3 a0_4 f c x3 x7 m r2 r3 r4 : Int) (a0_5 a0_6 r6 r7 p1 p2 p3 p4 p5 p6 : Bool) (w : World)
    (hO : Hid (∀ W, Calls Tryz.prog 42 #[.int .i64 a0_0] W fun e w' => e = .returned (.agg #[.int .i64 f, .int .i64 c, .int .i64 x3, .int .i64 x7]) ∧ Below W.heap.size W w'))
    (hF : Hid (∀ W, Calls Tryz.prog 44 #[.int .i64 f] W fun e w' => e = .returned (.int .i64 m) ∧ Below W.heap.size W w'))
    (hK : Hid (∀ W, Calls Tryz.prog 43 #[.agg #[.int .i64 a0_0, .int .i64 a0_1, .int .i64 a0_2, .int .i64 a0_3, .int .i64 a0_4, .bool a0_5, .bool a0_6], .int .i64 m] W fun e w' => e = .returned (.agg #[.int .i64 a0_0, .int .i64 r2, .int .i64 r3, .int .i64 r4, .int .i64 a0_4, .bool r6, .bool r7]) ∧ Below W.heap.size W w'))
    (h3 : Hid (∀ W, Calls Tryz.prog 45 #[.int .i64 a0_1, .int .i64 31] W fun e w' => e = .returned (.bool p3) ∧ Below W.heap.size W w'))
    (h4 : Hid (∀ W, Calls Tryz.prog 45 #[.int .i64 a0_2, .int .i64 31] W fun e w' => e = .returned (.bool p4) ∧ Below W.heap.size W w'))
    (h5 : Hid (∀ W, Calls Tryz.prog 45 #[.int .i64 a0_3, .int .i64 31] W fun e w' => e = .returned (.bool p5) ∧ Below W.heap.size W w'))
    (h6 : Hid (∀ W, Calls Tryz.prog 46 #[.int .i64 f, .int .i64 a0_4] W fun e w' => e = .returned (.bool p6) ∧ Below W.heap.size W w'))
    (q1 : Hid (decide (0 < f) = p1)) (q2 : Hid ((a0_1 == r2 && (a0_2 == r3 && (a0_3 == r4 && (a0_5 == r6 && a0_6 == r7)))) = p2)) :
    Calls Tryz.prog 24 #[.agg #[.int .i64 a0_0, .int .i64 a0_1, .int .i64 a0_2, .int .i64 a0_3, .int .i64 a0_4, .bool a0_5, .bool a0_6]] w fun e w' => e = .returned (.bool (p1 && (p2 && (p3 && (p4 && (p5 && p6)))))) ∧ Below w.heap.size w w' := by
  have cs : p1 = false ∨ p1 = true ∧ p2 = false ∨ p1 = true ∧ p2 = true ∧ p3 = false ∨ p1 = true ∧ p2 = true ∧ p3 = true ∧ p4 = false ∨ p1 = true ∧ p2 = true ∧ p3 = true ∧ p4 = true ∧ p5 = false ∨ p1 = true ∧ p2 = true ∧ p3 = true ∧ p4 = true ∧ p5 = true := by
    cases p1 <;> cases p2 <;> cases p3 <;> cases p4 <;> cases p5 <;> simp
  have hu := Tryz.underlying33
  rcases cs with rfl | ⟨rfl, rfl⟩ | ⟨rfl, rfl, rfl⟩ | ⟨rfl, rfl, rfl, rfl⟩ | ⟨rfl, rfl, rfl, rfl, rfl⟩ | ⟨rfl, rfl, rfl, rfl, rfl⟩
  all_goals (
    go_enter Tryz.func24, Tryz.ntmps24
    go_wp2_with fail
    refine (hO.out _).mono ?_
    rintro e w1 ⟨rfl, hb⟩
    have B1 := (Blk.new w _ _).below hb
    have hb := Lib.hid ((((Below.refl w.heap.size w).alloc (Nat.le_refl _) _).trans (hb.mono (by simp))))
    have c1 := B1.cell
    have l1 := B1.lt
    have B1 := Lib.hid B1
    go_wp2_with fail
    generalize hX : World.alloc w1 _ = X
    have K1 := B1.out.alloc_eq hX
    have K2 := Blk.new_eq hX
    have HX := Lib.hid (below_alloc_eq hb.out hb.out.size hX)
    clear hX c1 l1 B1 hb
    have k1 := K1.gcell
    have k2 := K2.gcell
    have q1 := q1.out
    have q2 := q2.out
    refine wp_region_quiet_below (by kernel_rfl) (by kernel_rfl) ?_
    repeat (first | go_big_quiet_step ((first | (go_at_call 44; exact in_grow hF.out _ _) | (go_at_call 43; exact in_grow hK.out _ _) | (go_at_call 45; with_reducible first | exact in_grow h3.out _ _ | exact in_grow h4.out _ _ | exact in_grow h5.out _ _) | (go_at_call 46; exact in_grow h6.out _ _))) | quiet_step ((first | (go_at_call 44; exact in_grow hF.out _ _) | (go_at_call 43; exact in_grow hK.out _ _) | (go_at_call 45; with_reducible first | exact in_grow h3.out _ _ | exact in_grow h4.out _ _ | exact in_grow h5.out _ _) | (go_at_call 46; exact in_grow h6.out _ _))))
    refine wpQuiet_nil ?_
    intro _ hw'
    obtain ⟨⟨dq, osq⟩, hw''⟩ := hw'
    subst hw''
    go_wp2
    go_ret
    exact ⟨rfl, HX.out.trans ((below_regrown X dq osq).mono HX.out.size)⟩)
def inst_Good.f (a0_0 : Int) (a0_1 : Int) (a0_2 : Int) (a0_3 : Int) (a0_4 : Int) (a0_5 : Bool) (a0_6 : Bool) : Option (Bool) := if I64 a0_4 then some (goodOf a0_0 a0_1 a0_2 a0_3 a0_4 a0_5 a0_6) else none
theorem inst_Good.calls (a0_0 : Int) (a0_1 : Int) (a0_2 : Int) (a0_3 : Int) (a0_4 : Int) (a0_5 : Bool) (a0_6 : Bool) (r : Bool) (w : World) (h : inst_Good.f a0_0 a0_1 a0_2 a0_3 a0_4 a0_5 a0_6 = some r) :
    Calls Tryz.prog 24 #[.agg #[.int .i64 a0_0, .int .i64 a0_1, .int .i64 a0_2, .int .i64 a0_3, .int .i64 a0_4, .bool a0_5, .bool a0_6]] w fun e w' => e = .returned (.bool r) ∧ Below w.heap.size w w' := by
  unfold inst_Good.f at h
  by_cases hI : I64 a0_4
  case neg => rw [if_neg hI] at h; simp at h
  rw [if_pos hI] at h
  obtain rfl := Option.some.inj h
  obtain ⟨k1, k2, k3, k4, k5, k6⟩ := fields_has (formOf a0_0)
  refine (inst_Good.w a0_0 a0_1 a0_2 a0_3 a0_4 (formOf a0_0) (codeOf a0_0) (f3Of a0_0) (f7Of a0_0) (fieldsOf (formOf a0_0)) _ _ _ a0_5 a0_6 _ _ _ _ (decide (0 ≤ a0_1 ∧ a0_1 ≤ 31)) (decide (0 ≤ a0_2 ∧ a0_2 ≤ 31)) (decide (0 ≤ a0_3 ∧ a0_3 ≤ 31)) (immOf (formOf a0_0) a0_4) w
    (fun W => inst_of.calls a0_0 _ _ _ _ W rfl) (fun W => (inst_fields.calls (formOf a0_0) _ W rfl).mono fun _ _ ⟨h1, h2⟩ => ⟨h1, h2.below⟩)
    (fun W => inst_kept.calls a0_0 a0_1 a0_2 a0_3 a0_4 a0_5 a0_6 (fieldsOf (formOf a0_0)) _ _ _ _ _ _ _ W (by unfold inst_kept.f; rw [if_pos ⟨k5, k6⟩]))
    (fun W => (inst_within.calls a0_1 31 _ W (by unfold inst_within.f; by_cases h : 0 ≤ a0_1 <;> simp [h])).mono fun _ _ ⟨h1, h2⟩ => ⟨h1, h2.below⟩)
    (fun W => (inst_within.calls a0_2 31 _ W (by unfold inst_within.f; by_cases h : 0 ≤ a0_2 <;> simp [h])).mono fun _ _ ⟨h1, h2⟩ => ⟨h1, h2.below⟩)
    (fun W => (inst_within.calls a0_3 31 _ W (by unfold inst_within.f; by_cases h : 0 ≤ a0_3 <;> simp [h])).mono fun _ _ ⟨h1, h2⟩ => ⟨h1, h2.below⟩)
    (fun W => (inst_may.calls (formOf a0_0) a0_4 _ W (by unfold inst_may.f; rw [if_pos hI])).mono fun _ _ ⟨h1, h2⟩ => ⟨h1, h2.below⟩)
    rfl rfl).mono ?_
  rintro e w' ⟨rfl, hb⟩
  refine ⟨?_, hb⟩
  congr 2
  rw [k1, k2, k3, k4]
  unfold goodOf regOf keep
  have kz : ∀ (b : Bool) (r : Int), (r == (if b = true then r else 0)) = (b || r == 0) := by intro b r; cases b <;> simp
  have zp : ∀ r : Int, (r == 0) = true → decide (0 ≤ r ∧ r ≤ 31) = true := by intro r h; have := eq_of_beq h; subst this; rfl
  have zp1 := zp a0_1
  have zp2 := zp a0_2
  have zp3 := zp a0_3
  simp only [kz]
  generalize hasRd (formOf a0_0) = b1
  generalize hasRs1 (formOf a0_0) = b2
  generalize hasRs2 (formOf a0_0) = b3
  generalize hasAq (formOf a0_0) = b4
  generalize immOf (formOf a0_0) a0_4 = b5
  generalize decide (0 < formOf a0_0) = b6
  generalize (a0_1 == 0) = z1 at *
  generalize (a0_2 == 0) = z2 at *
  generalize (a0_3 == 0) = z3 at *
  generalize decide (0 ≤ a0_1 ∧ a0_1 ≤ 31) = p1 at *
  generalize decide (0 ≤ a0_2 ∧ a0_2 ≤ 31) = p2 at *
  generalize decide (0 ≤ a0_3 ∧ a0_3 ≤ 31) = p3 at *
  clear k1 k2 k3 k4 k5 k6 hI h hb kz zp
  revert zp1 zp2 zp3
  clear a0_0 a0_1 a0_2 a0_3 a0_4 w w'
  revert b1 b2 b3 b4 b5 b6 z1 z2 z3 p1 p2 p3 a0_5 a0_6
  decide +kernel


/-! ### listing_suffix: function 25 -/
def listing_suffix.j0 : Nat → Bool → Bool → Bool → Option (ByteArray)
  | 0, _, _, _ => none
  | k + 1, x0, x1, x5 => if x5 = true then (some (⟨#[46, 97, 113, 114, 108]⟩ : ByteArray)) else (if x0 = true then (some (⟨#[46, 97, 113]⟩ : ByteArray)) else (if x1 = true then (some (⟨#[46, 114, 108]⟩ : ByteArray)) else (some (⟨#[]⟩ : ByteArray))))
def listing_suffix.f (k : Nat) (a0 : Bool) (a1 : Bool) : Option (ByteArray) := if a0 = true then (listing_suffix.j0 k a0 a1 a1) else (listing_suffix.j0 k a0 a1 false)
theorem listing_suffix.mono_l : ∀ k, (∀ y0 y1 y2, LeO (listing_suffix.j0 k y0 y1 y2) (listing_suffix.j0 (k + 1) y0 y1 y2))
  | 0 => fun _ _ _ r h => by simp [listing_suffix.j0] at h
  | k + 1 => by
    have ih0 := listing_suffix.mono_l k
    · intro y0 y1 y2
      unfold listing_suffix.j0
      repeat' first
      | (with_reducible exact ih0 _ _ _)
      | (with_reducible exact LeO.refl _)
      | (with_reducible exact LeO.none _)
      | (with_reducible refine LeO.ite ?_ ?_)
      | (with_reducible refine LeO.bind ?_ (fun _ => ?_))
      | exact ih0 _ _ _
      | exact LeO.none _
      | refine LeO.ite ?_ ?_
      | refine LeO.bind ?_ (fun _ => ?_)
theorem listing_suffix.mono : ∀ a0 a1 k, LeO (listing_suffix.f k a0 a1) (listing_suffix.f (k + 1) a0 a1) := by
  intro a0 a1 k
  have ih0 := listing_suffix.mono_l k
  unfold listing_suffix.f
  repeat' first
      | (with_reducible exact ih0 _ _ _)
      | (with_reducible exact LeO.refl _)
      | (with_reducible exact LeO.none _)
      | (with_reducible refine LeO.ite ?_ ?_)
      | (with_reducible refine LeO.bind ?_ (fun _ => ?_))
      | exact ih0 _ _ _
      | exact LeO.none _
      | refine LeO.ite ?_ ?_
      | refine LeO.bind ?_ (fun _ => ?_)
set_option maxHeartbeats 8000000 in
set_option maxRecDepth 100000 in
theorem listing_suffix.calls (k : Nat) (a0 : Bool) (a1 : Bool) (r : ByteArray) (w : World) (h : listing_suffix.f k a0 a1 = some r) :
    Calls Tryz.prog 25 #[.bool a0, .bool a1] w fun e w' => e = .returned (.string r) ∧ Drawn0 w w' := by
  have H : (if a0 = true then (listing_suffix.j0 k a0 a1 a1) else (listing_suffix.j0 k a0 a1 false)) = some r := h
  clear h
  have HC3 := Aside0.mk H
  clear H
  go_enter Tryz.func25, Tryz.ntmps25
  go_upto_region 1 with (fail)
  go_cut [5] (fun v5 wc => ∃ (kq : Nat) (x5_2 : Bool), v5 = .bool x5_2 ∧ Aside0 (listing_suffix.j0 kq a0 a1 x5_2 = some r) ∧ Aside0 (kq ≤ k) ∧ Drawn0 w wc)
  case first =>
    have H := HC3.out
    clear HC3
    by_cases c4 : a0 = true
    · subst c4
      have H1 : (listing_suffix.j0 k true a1 a1) = some r := by rw [if_pos rfl] at H; exact H
      clear H
      have H := H1
      clear H1
      have H' := Aside0.mk H
      clear H
      go_wp2
      go_meet
      case rel => exact ⟨_, (a1), (by first | rfl | (simp; done) | (simp [*]; done)), H', ⟨by first | omega | exact Nat.le_refl _⟩, by repeat (first | exact Drawn0.refl _ | apply Drawn0.step)⟩
    · replace c4 := Bool.eq_false_iff.mpr c4
      subst c4
      have H1 : (listing_suffix.j0 k false a1 false) = some r := by rw [if_neg (show ¬ (false = true) by decide)] at H; exact H
      clear H
      have H := H1
      clear H1
      have H' := Aside0.mk H
      clear H
      go_wp2
      go_meet
      case rel => exact ⟨_, (false), (by first | rfl | (simp; done) | (simp [*]; done)), H', ⟨by first | omega | exact Nat.le_refl _⟩, by repeat (first | exact Drawn0.refl _ | apply Drawn0.step)⟩
  case rest =>
    clear HC3
    try clear c2
    try clear p2
    try clear c4
    obtain ⟨kq, x5_2, rfl, HA, HJ2, ⟨mc2, rfl⟩⟩ := hcut
    cases kq with
    | zero => exact absurd HA.out (by simp [listing_suffix.j0])
    | succ kj2 =>
      have H := HA.out
      clear HA
      simp only [listing_suffix.j0] at H
      by_cases c5 : x5_2 = true
      · subst c5
        have H1 : (some (⟨#[46, 97, 113, 114, 108]⟩ : ByteArray)) = some r := by rw [if_pos rfl] at H; exact H
        clear H
        have H := H1
        clear H1
        obtain rfl := Option.some.inj H
        go_wp2
        go_ret
        exact ⟨by first | rfl | (simp; done) | (simp [*]; done), by repeat (first | exact Drawn0.refl _ | apply Drawn0.step)⟩
      · replace c5 := Bool.eq_false_iff.mpr c5
        subst c5
        have H1 : (if a0 = true then (some (⟨#[46, 97, 113]⟩ : ByteArray)) else (if a1 = true then (some (⟨#[46, 114, 108]⟩ : ByteArray)) else (some (⟨#[]⟩ : ByteArray)))) = some r := by rw [if_neg (show ¬ (false = true) by decide)] at H; exact H
        clear H
        have H := H1
        clear H1
        by_cases c6 : a0 = true
        · subst c6
          have H1 : (some (⟨#[46, 97, 113]⟩ : ByteArray)) = some r := by rw [if_pos rfl] at H; exact H
          clear H
          have H := H1
          clear H1
          obtain rfl := Option.some.inj H
          go_wp2
          go_ret
          exact ⟨by first | rfl | (simp; done) | (simp [*]; done), by repeat (first | exact Drawn0.refl _ | apply Drawn0.step)⟩
        · replace c6 := Bool.eq_false_iff.mpr c6
          subst c6
          have H1 : (if a1 = true then (some (⟨#[46, 114, 108]⟩ : ByteArray)) else (some (⟨#[]⟩ : ByteArray))) = some r := by rw [if_neg (show ¬ (false = true) by decide)] at H; exact H
          clear H
          have H := H1
          clear H1
          by_cases c7 : a1 = true
          · subst c7
            have H1 : (some (⟨#[46, 114, 108]⟩ : ByteArray)) = some r := by rw [if_pos rfl] at H; exact H
            clear H
            have H := H1
            clear H1
            obtain rfl := Option.some.inj H
            go_wp2
            go_ret
            exact ⟨by first | rfl | (simp; done) | (simp [*]; done), by repeat (first | exact Drawn0.refl _ | apply Drawn0.step)⟩
          · replace c7 := Bool.eq_false_iff.mpr c7
            subst c7
            have H1 : (some (⟨#[]⟩ : ByteArray)) = some r := by rw [if_neg (show ¬ (false = true) by decide)] at H; exact H
            clear H
            have H := H1
            clear H1
            obtain rfl := Option.some.inj H
            go_wp2
            go_ret
            exact ⟨by first | rfl | (simp; done) | (simp [*]; done), by repeat (first | exact Drawn0.refl _ | apply Drawn0.step)⟩

end Go.Proofs.YtihcljaphajdfaaGreatDoor.PAll
