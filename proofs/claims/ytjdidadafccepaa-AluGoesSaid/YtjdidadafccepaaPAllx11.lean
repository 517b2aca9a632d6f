/- DERIVED. The contracts of the Go functions that one law reaches: each call returns what the plain function beside it says, under that theorem's own premises. Written by a program (hp.py) over the kit's printed words. -/
import Derived.Test.YtjdidadafccepaaPAllx0
import Derived.Test.YtjdidadafccepaaPAllx6
import Derived.Test.YtjdidadafccepaaPAllx7
import Derived.Test.YtjdidadafccepaaPAllx8
import Derived.Test.YtjdidadafccepaaPAllx10
namespace Go.Proofs.Ytjdidadafccepaa.PAll
open Go.RowKit Go.Proofs.YtjdidadafccepaaW.PrintWords Go.Proofs.YtjdidadafccepaaW.PrintLast Go.Proofs.YtjdidadafccepaaW.PrintMore Go.Proofs.Ytjdidadafccepaa.M
attribute [local go_sem] max2_int min2_int max_two min_two max_three min_three max_four min_four   -- for this text's walks alone
set_option linter.unusedVariables false
set_option linter.unusedSimpArgs false

/-! ### postbagref04_narrow: function 35 -/
mutual
def postbagref04_narrow.j0 : Nat → Int → Int → Int → Int → Bool → Option (Int × Bool)
  | 0, _, _, _, _, _ => none
  | k + 1, x1, x2, x8, x12, x13 => if x13 = true then ((postbagref04_word.f (IntKind.u64.wrap (x1 + x2))).bind fun t166 => (some (t166, true))) else (if x12 = 46 then ((postbagref04_word.f (IntKind.u64.wrap (x1 - x2))).bind fun t167 => (some (t167, true))) else (if x12 = 47 then (postbagref04_narrow.j1 k x1 x2 x8 x12 (x12 == 47)) else (postbagref04_narrow.j1 k x1 x2 x8 x12 (x12 == 42))))
def postbagref04_narrow.j1 : Nat → Int → Int → Int → Int → Bool → Option (Int × Bool)
  | 0, _, _, _, _, _ => none
  | k + 1, x1, x2, x8, x12, x26 => if x26 = true then ((postbagref04_left.f k x1 x8).bind fun t168 => ((postbagref04_word.f t168).bind fun t169 => (some (t169, true)))) else (if x12 = 48 then (postbagref04_narrow.j2 k x1 x2 x8 x12 (x12 == 48)) else (postbagref04_narrow.j2 k x1 x2 x8 x12 (x12 == 43)))
def postbagref04_narrow.j2 : Nat → Int → Int → Int → Int → Bool → Option (Int × Bool)
  | 0, _, _, _, _, _ => none
  | k + 1, x1, x2, x8, x12, x33 => if x33 = true then ((postbagref04_low.f x1).bind fun t170 => ((postbagref04_right.f k t170 x8 0).bind fun t171 => ((postbagref04_word.f t171).bind fun t172 => (some (t172, true))))) else (if x12 = 49 then (postbagref04_narrow.j3 k x1 x2 x8 x12 (x12 == 49)) else (postbagref04_narrow.j3 k x1 x2 x8 x12 (x12 == 44)))
def postbagref04_narrow.j3 : Nat → Int → Int → Int → Int → Bool → Option (Int × Bool)
  | 0, _, _, _, _, _ => none
  | k + 1, x1, x2, x8, x12, x41 => if x41 = true then ((postbagref04_word.f x1).bind fun t173 => ((postbagref01_Bit.f x1 31).bind fun t174 => ((postbagref04_right.f k t173 x8 t174).bind fun t175 => ((postbagref04_word.f t175).bind fun t176 => (some (t176, true)))))) else (if x12 = 61 then ((postbagref04_word.f (IntKind.u64.wrap (x1 * x2))).bind fun t177 => (some (t177, true))) else (if x12 = 62 then ((postbagref04_word.f x1).bind fun t178 => ((postbagref04_word.f x2).bind fun t179 => ((postbagref01_Quo.f t178 t179 true).bind fun t180 => ((postbagref04_word.f t180).bind fun t181 => (some (t181, true)))))) else (if x12 = 63 then ((postbagref04_low.f x1).bind fun t182 => ((postbagref04_low.f x2).bind fun t183 => ((postbagref01_Quo.f t182 t183 false).bind fun t184 => ((postbagref04_word.f t184).bind fun t185 => (some (t185, true)))))) else (if x12 = 64 then ((postbagref04_word.f x1).bind fun t186 => ((postbagref04_word.f x2).bind fun t187 => ((postbagref01_Rem.f t186 t187 true).bind fun t188 => ((postbagref04_word.f t188).bind fun t189 => (some (t189, true)))))) else (if x12 = 65 then ((postbagref04_low.f x1).bind fun t190 => ((postbagref04_low.f x2).bind fun t191 => ((postbagref01_Rem.f t190 t191 false).bind fun t192 => ((postbagref04_word.f t192).bind fun t193 => (some (t193, true)))))) else (some (0, false)))))))
end
def postbagref04_narrow.f (k : Nat) (a0 : Int) (a1 : Int) (a2 : Int) : Option (Int × Bool) := (postbagref01_Field.f a2 0 5).bind fun t165 => (if a0 = 45 then (postbagref04_narrow.j0 k a1 a2 (wrap64 (t165)) a0 (a0 == 45)) else (postbagref04_narrow.j0 k a1 a2 (wrap64 (t165)) a0 (a0 == 41)))
theorem postbagref04_narrow.mono_l : ∀ k, (∀ y0 y1 y2 y3 y4, LeO (postbagref04_narrow.j0 k y0 y1 y2 y3 y4) (postbagref04_narrow.j0 (k + 1) y0 y1 y2 y3 y4)) ∧ (∀ y0 y1 y2 y3 y4, LeO (postbagref04_narrow.j1 k y0 y1 y2 y3 y4) (postbagref04_narrow.j1 (k + 1) y0 y1 y2 y3 y4)) ∧ (∀ y0 y1 y2 y3 y4, LeO (postbagref04_narrow.j2 k y0 y1 y2 y3 y4) (postbagref04_narrow.j2 (k + 1) y0 y1 y2 y3 y4)) ∧ (∀ y0 y1 y2 y3 y4, LeO (postbagref04_narrow.j3 k y0 y1 y2 y3 y4) (postbagref04_narrow.j3 (k + 1) y0 y1 y2 y3 y4))
  | 0 => ⟨fun _ _ _ _ _ r h => by simp [postbagref04_narrow.j0] at h, fun _ _ _ _ _ r h => by simp [postbagref04_narrow.j1] at h, fun _ _ _ _ _ r h => by simp [postbagref04_narrow.j2] at h, fun _ _ _ _ _ r h => by simp [postbagref04_narrow.j3] at h⟩
  | k + 1 => by
    obtain ⟨ih0, ih1, ih2, ih3⟩ := postbagref04_narrow.mono_l k
    refine ⟨?_, ?_, ?_, ?_⟩
    · intro y0 y1 y2 y3 y4
      unfold postbagref04_narrow.j0
      repeat' first
      | (with_reducible exact ih0 _ _ _ _ _)
      | (with_reducible exact ih1 _ _ _ _ _)
      | (with_reducible exact ih2 _ _ _ _ _)
      | (with_reducible exact ih3 _ _ _ _ _)
      | (with_reducible exact postbagref04_left.mono _ _ _)
      | (with_reducible exact postbagref04_right.mono _ _ _ _)
      | (with_reducible exact LeO.refl _)
      | (with_reducible exact LeO.none _)
      | (with_reducible refine LeO.ite ?_ ?_)
      | (with_reducible refine LeO.bind ?_ (fun _ => ?_))
      | exact ih0 _ _ _ _ _
      | exact ih1 _ _ _ _ _
      | exact ih2 _ _ _ _ _
      | exact ih3 _ _ _ _ _
      | exact postbagref04_left.mono _ _ _
      | exact postbagref04_right.mono _ _ _ _
      | exact LeO.none _
      | refine LeO.ite ?_ ?_
      | refine LeO.bind ?_ (fun _ => ?_)
    · intro y0 y1 y2 y3 y4
      unfold postbagref04_narrow.j1
      repeat' first
      | (with_reducible exact ih0 _ _ _ _ _)
      | (with_reducible exact ih1 _ _ _ _ _)
      | (with_reducible exact ih2 _ _ _ _ _)
      | (with_reducible exact ih3 _ _ _ _ _)
      | (with_reducible exact postbagref04_left.mono _ _ _)
      | (with_reducible exact postbagref04_right.mono _ _ _ _)
      | (with_reducible exact LeO.refl _)
      | (with_reducible exact LeO.none _)
      | (with_reducible refine LeO.ite ?_ ?_)
      | (with_reducible refine LeO.bind ?_ (fun _ => ?_))
      | exact ih0 _ _ _ _ _
      | exact ih1 _ _ _ _ _
      | exact ih2 _ _ _ _ _
      | exact ih3 _ _ _ _ _
      | exact postbagref04_left.mono _ _ _
      | exact postbagref04_right.mono _ _ _ _
      | exact LeO.none _
      | refine LeO.ite ?_ ?_
      | refine LeO.bind ?_ (fun _ => ?_)
    · intro y0 y1 y2 y3 y4
      unfold postbagref04_narrow.j2
      repeat' first
      | (with_reducible exact ih0 _ _ _ _ _)
      | (with_reducible exact ih1 _ _ _ _ _)
      | (with_reducible exact ih2 _ _ _ _ _)
      | (with_reducible exact ih3 _ _ _ _ _)
      | (with_reducible exact postbagref04_left.mono _ _ _)
      | (with_reducible exact postbagref04_right.mono _ _ _ _)
      | (with_reducible exact LeO.refl _)
      | (with_reducible exact LeO.none _)
      | (with_reducible refine LeO.ite ?_ ?_)
      | (with_reducible refine LeO.bind ?_ (fun _ => ?_))
      | exact ih0 _ _ _ _ _
      | exact ih1 _ _ _ _ _
      | exact ih2 _ _ _ _ _
      | exact ih3 _ _ _ _ _
      | exact postbagref04_left.mono _ _ _
      | exact postbagref04_right.mono _ _ _ _
      | exact LeO.none _
      | refine LeO.ite ?_ ?_
      | refine LeO.bind ?_ (fun _ => ?_)
    · intro y0 y1 y2 y3 y4
      unfold postbagref04_narrow.j3
      repeat' first
      | (with_reducible exact ih0 _ _ _ _ _)
      | (with_reducible exact ih1 _ _ _ _ _)
      | (with_reducible exact ih2 _ _ _ _ _)
      | (with_reducible exact ih3 _ _ _ _ _)
      | (with_reducible exact postbagref04_left.mono _ _ _)
      | (with_reducible exact postbagref04_right.mono _ _ _ _)
      | (with_reducible exact LeO.refl _)
      | (with_reducible exact LeO.none _)
      | (with_reducible refine LeO.ite ?_ ?_)
      | (with_reducible refine LeO.bind ?_ (fun _ => ?_))
      | exact ih0 _ _ _ _ _
      | exact ih1 _ _ _ _ _
      | exact ih2 _ _ _ _ _
      | exact ih3 _ _ _ _ _
      | exact postbagref04_left.mono _ _ _
      | exact postbagref04_right.mono _ _ _ _
      | exact LeO.none _
      | refine LeO.ite ?_ ?_
      | refine LeO.bind ?_ (fun _ => ?_)
theorem postbagref04_narrow.mono : ∀ a0 a1 a2 k, LeO (postbagref04_narrow.f k a0 a1 a2) (postbagref04_narrow.f (k + 1) a0 a1 a2) := by
  intro a0 a1 a2 k
  obtain ⟨ih0, ih1, ih2, ih3⟩ := postbagref04_narrow.mono_l k
  unfold postbagref04_narrow.f
  repeat' first
      | (with_reducible exact ih0 _ _ _ _ _)
      | (with_reducible exact ih1 _ _ _ _ _)
      | (with_reducible exact ih2 _ _ _ _ _)
      | (with_reducible exact ih3 _ _ _ _ _)
      | (with_reducible exact postbagref04_left.mono _ _ _)
      | (with_reducible exact postbagref04_right.mono _ _ _ _)
      | (with_reducible exact LeO.refl _)
      | (with_reducible exact LeO.none _)
      | (with_reducible refine LeO.ite ?_ ?_)
      | (with_reducible refine LeO.bind ?_ (fun _ => ?_))
      | exact ih0 _ _ _ _ _
      | exact ih1 _ _ _ _ _
      | exact ih2 _ _ _ _ _
      | exact ih3 _ _ _ _ _
      | exact postbagref04_left.mono _ _ _
      | exact postbagref04_right.mono _ _ _ _
      | exact LeO.none _
      | refine LeO.ite ?_ ?_
      | refine LeO.bind ?_ (fun _ => ?_)
set_option maxHeartbeats 8000000 in
set_option maxRecDepth 100000 in
theorem postbagref04_narrow.calls (k : Nat) (a0 : Int) (a1 : Int) (a2 : Int) (r1 : Int) (r2 : Bool) (w : World) (h : postbagref04_narrow.f k a0 a1 a2 = some (r1, r2)) :
    Calls Try.prog 35 #[.int .i64 a0, .int .u64 a1, .int .u64 a2] w fun e w' => e = .returned (.tuple #[.int .u64 r1, .bool r2]) ∧ Drawn0 w w' := by
  have H : ((postbagref01_Field.f a2 0 5).bind fun t165 => (if a0 = 45 then (postbagref04_narrow.j0 k a1 a2 (wrap64 (t165)) a0 (a0 == 45)) else (postbagref04_narrow.j0 k a1 a2 (wrap64 (t165)) a0 (a0 == 41)))) = some (r1, r2) := h
  clear h
  replace H := Option.bind_eq_some_iff.mp H
  obtain ⟨t165, A40, H⟩ := H
  replace H : (if a0 = 45 then (postbagref04_narrow.j0 k a1 a2 (wrap64 (t165)) a0 (a0 == 45)) else (postbagref04_narrow.j0 k a1 a2 (wrap64 (t165)) a0 (a0 == 41))) = some (r1, r2) := H
  have A4 := Aside0.mk A40
  clear A40
  have HC5 := Aside0.mk H
  clear H
  go_enter Try.func35, Try.ntmps35
  go_upto_if 13 with (first | ((with_reducible refine gate_callee (f := 48) rfl ?_); refine goesL_ (some 10) rfl rfl Try.func48 (by kernel_rfl) rfl #[.int .u64 a2, .int .i64 0, .int .i64 5] rfl (by (try simp only [List.map_toArray, List.map_cons, List.map_nil]); first | done | rfl | (simp only [List.length_drop, List.length_take]; rfl)) ?_; (with_reducible refine (postbagref01_Field.calls a2 0 5 t165 _ A4.out).mono ?_); rintro e w' ⟨rfl, ⟨nd, rfl⟩⟩; refine ⟨_, rfl, ?_⟩))
  (try simp only [Act.put, List.setIfInBounds_toArray, List.set_cons_zero, List.set_cons_succ])
  go_cut [13] (fun v13 wc => ∃ (kq : Nat) (x13_4 : Bool), v13 = .bool x13_4 ∧ Aside0 (postbagref04_narrow.j0 kq a1 a2 (wrap64 (t165)) a0 x13_4 = some (r1, r2)) ∧ Aside0 (kq ≤ k) ∧ Drawn0 w wc)
  case first =>
    have H := HC5.out
    clear HC5
    by_cases c6 : a0 = 45
    · rw [if_pos c6] at H
      have c6b0 : (a0 == 45) = true := beq_iff_eq.mpr c6
      have c6b1 : (a0 != 45) = false := bne_eq_false_iff_eq.mpr c6
      clear c6
      (first | rw [c6b0] | (simp only [i64_w, i32_w]; rw [c6b0]) | skip)
      have H' := Aside0.mk H
      clear H
      go_wp2
      go_meet
      case rel => exact ⟨_, ((a0 == 45)), (by first | rfl | (simp; done) | (simp [*]; done)), H', ⟨by first | omega | exact Nat.le_refl _⟩, by repeat (first | exact Drawn0.refl _ | apply Drawn0.step)⟩
    · rw [if_neg c6] at H
      have c6b0 : (a0 == 45) = false := beq_eq_false_iff_ne.mpr c6
      have c6b1 : (a0 != 45) = true := bne_iff_ne.mpr c6
      (first | rw [c6b0] | (simp only [i64_w, i32_w]; rw [c6b0]) | skip)
      have H' := Aside0.mk H
      clear H
      go_wp2
      go_meet
      case rel => exact ⟨_, ((a0 == 41)), (by first | rfl | (simp; done) | (simp [*]; done)), H', ⟨by first | omega | exact Nat.le_refl _⟩, by repeat (first | exact Drawn0.refl _ | apply Drawn0.step)⟩
  case rest =>
    clear HC5
    try clear p2
    try clear c3
    try clear c4
    try clear c6
    try clear c6b0
    try clear c6b1
    try clear p6
    obtain ⟨kq, x13_4, rfl, HA, HJ4, ⟨mc4, rfl⟩⟩ := hcut
    cases kq with
    | zero => exact absurd HA.out (by simp [postbagref04_narrow.j0])
    | succ kj4 =>
      have H := HA.out
      clear HA
      simp only [postbagref04_narrow.j0] at H
      by_cases c7 : x13_4 = true
      · subst c7
        have H1 : ((postbagref04_word.f (IntKind.u64.wrap (a1 + a2))).bind fun t166 => (some (t166, true))) = some (r1, r2) := by rw [if_pos rfl] at H; exact H
        clear H
        have H := H1
        clear H1
        replace H := Option.bind_eq_some_iff.mp H
        obtain ⟨t166, A80, H⟩ := H
        replace H : (some (t166, true)) = some (r1, r2) := H
        have A8 := Aside0.mk A80
        clear A80
        simp only [Option.some.injEq, Prod.mk.injEq] at H
        obtain ⟨rfl, rfl⟩ := H
        go_wp2_with (first | ((with_reducible refine gate_callee (f := 71) rfl ?_); refine goesL_ (some 19) rfl rfl Try.func71 (by kernel_rfl) rfl #[.int .u64 (IntKind.u64.wrap (a1 + a2))] rfl (by (try simp only [List.map_toArray, List.map_cons, List.map_nil]); first | done | rfl | (simp only [List.length_drop, List.length_take]; rfl)) ?_; (with_reducible refine (postbagref04_word.calls (IntKind.u64.wrap (a1 + a2)) t166 _ A8.out).mono ?_); rintro e w' ⟨rfl, ⟨nd, rfl⟩⟩; refine ⟨_, rfl, ?_⟩))
        go_ret2
        exact ⟨by first | rfl | (simp; done) | (simp [*]; done), by repeat (first | exact Drawn0.refl _ | apply Drawn0.step)⟩
      · replace c7 := Bool.eq_false_iff.mpr c7
        subst c7
        have H1 : (if a0 = 46 then ((postbagref04_word.f (IntKind.u64.wrap (a1 - a2))).bind fun t167 => (some (t167, true))) else (if a0 = 47 then (postbagref04_narrow.j1 kj4 a1 a2 (wrap64 (t165)) a0 (a0 == 47)) else (postbagref04_narrow.j1 kj4 a1 a2 (wrap64 (t165)) a0 (a0 == 42)))) = some (r1, r2) := by rw [if_neg (show ¬ (false = true) by decide)] at H; exact H
        clear H
        have H := H1
        clear H1
        by_cases c9 : a0 = 46
        · rw [if_pos c9] at H
          have c9b0 : (a0 == 46) = true := beq_iff_eq.mpr c9
          have c9b1 : (a0 != 46) = false := bne_eq_false_iff_eq.mpr c9
          clear c9
          replace H := Option.bind_eq_some_iff.mp H
          obtain ⟨t167, A100, H⟩ := H
          replace H : (some (t167, true)) = some (r1, r2) := H
          have A10 := Aside0.mk A100
          clear A100
          simp only [Option.some.injEq, Prod.mk.injEq] at H
          obtain ⟨rfl, rfl⟩ := H
          go_wp2_with (first | ((with_reducible refine gate_callee (f := 71) rfl ?_); refine goesL_ (some 25) rfl rfl Try.func71 (by kernel_rfl) rfl #[.int .u64 (IntKind.u64.wrap (a1 - a2))] rfl (by (try simp only [List.map_toArray, List.map_cons, List.map_nil]); first | done | rfl | (simp only [List.length_drop, List.length_take]; rfl)) ?_; (with_reducible refine (postbagref04_word.calls (IntKind.u64.wrap (a1 - a2)) t167 _ A10.out).mono ?_); rintro e w' ⟨rfl, ⟨nd, rfl⟩⟩; refine ⟨_, rfl, ?_⟩))
          go_ret2
          exact ⟨by first | rfl | (simp; done) | (simp [*]; done), by repeat (first | exact Drawn0.refl _ | apply Drawn0.step)⟩
        · rw [if_neg c9] at H
          have c9b0 : (a0 == 46) = false := beq_eq_false_iff_ne.mpr c9
          have c9b1 : (a0 != 46) = true := bne_iff_ne.mpr c9
          have HC11 := Aside0.mk H
          clear H
          go_upto_if 26 with (fail)
          go_cut [26] (fun v26 wc => ∃ (kq : Nat) (x26_10 : Bool), v26 = .bool x26_10 ∧ Aside0 (postbagref04_narrow.j1 kq a1 a2 (wrap64 (t165)) a0 x26_10 = some (r1, r2)) ∧ Aside0 (kq ≤ kj4) ∧ Drawn0 w wc)
          case first =>
            have H := HC11.out
            clear HC11
            by_cases c12 : a0 = 47
            · rw [if_pos c12] at H
              have c12b0 : (a0 == 47) = true := beq_iff_eq.mpr c12
              have c12b1 : (a0 != 47) = false := bne_eq_false_iff_eq.mpr c12
              clear c12
              (first | rw [c12b0] | (simp only [i64_w, i32_w]; rw [c12b0]) | skip)
              have H' := Aside0.mk H
              clear H
              go_wp2
              go_meet
              case rel => exact ⟨_, ((a0 == 47)), (by first | rfl | (simp; done) | (simp [*]; done)), H', ⟨by have := HJ4.out; first | omega | exact Nat.le_refl _⟩, by repeat (first | exact Drawn0.refl _ | apply Drawn0.step)⟩
            · rw [if_neg c12] at H
              have c12b0 : (a0 == 47) = false := beq_eq_false_iff_ne.mpr c12
              have c12b1 : (a0 != 47) = true := bne_iff_ne.mpr c12
              (first | rw [c12b0] | (simp only [i64_w, i32_w]; rw [c12b0]) | skip)
              have H' := Aside0.mk H
              clear H
              go_wp2
              go_meet
              case rel => exact ⟨_, ((a0 == 42)), (by first | rfl | (simp; done) | (simp [*]; done)), H', ⟨by have := HJ4.out; first | omega | exact Nat.le_refl _⟩, by repeat (first | exact Drawn0.refl _ | apply Drawn0.step)⟩
          case rest =>
            clear HC11
            try clear c1
            try clear p2
            try clear c3
            try clear c4
            try clear c6
            try clear c6b0
            try clear c6b1
            try clear p6
            try clear c7
            try clear c9
            try clear c9b0
            try clear c9b1
            try clear c12
            try clear c12b0
            try clear c12b1
            try clear p2
            try clear p6
            obtain ⟨kq, x26_10, rfl, HA, HJ10, ⟨mc10, rfl⟩⟩ := hcut
            cases kq with
            | zero => exact absurd HA.out (by simp [postbagref04_narrow.j1])
            | succ kj10 =>
              have H := HA.out
              clear HA
              simp only [postbagref04_narrow.j1] at H
              by_cases c13 : x26_10 = true
              · subst c13
                have H1 : ((postbagref04_left.f kj10 a1 (wrap64 (t165))).bind fun t168 => ((postbagref04_word.f t168).bind fun t169 => (some (t169, true)))) = some (r1, r2) := by rw [if_pos rfl] at H; exact H
                clear H
                have H := H1
                clear H1
                replace H := Option.bind_eq_some_iff.mp H
                obtain ⟨t168, A140, H⟩ := H
                replace H : ((postbagref04_word.f t168).bind fun t169 => (some (t169, true))) = some (r1, r2) := H
                have A14 := Aside0.mk A140
                clear A140
                replace H := Option.bind_eq_some_iff.mp H
                obtain ⟨t169, A150, H⟩ := H
                replace H : (some (t169, true)) = some (r1, r2) := H
                have A15 := Aside0.mk A150
                clear A150
                simp only [Option.some.injEq, Prod.mk.injEq] at H
                obtain ⟨rfl, rfl⟩ := H
                go_wp2_with (first | ((with_reducible refine gate_callee (f := 67) rfl ?_); refine goesL_ (some 31) rfl rfl Try.func67 (by kernel_rfl) rfl #[.int .u64 a1, .int .i64 (wrap64 (t165))] rfl (by (try simp only [List.map_toArray, List.map_cons, List.map_nil]); first | done | rfl | (simp only [List.length_drop, List.length_take]; rfl)) ?_; (with_reducible refine (postbagref04_left.calls kj10 a1 (wrap64 (t165)) t168 _ A14.out).mono ?_); rintro e w' ⟨rfl, ⟨nd, rfl⟩⟩; refine ⟨_, rfl, ?_⟩) | ((with_reducible refine gate_callee (f := 71) rfl ?_); refine goesL_ (some 32) rfl rfl Try.func71 (by kernel_rfl) rfl #[.int .u64 t168] rfl (by (try simp only [List.map_toArray, List.map_cons, List.map_nil]); first | done | rfl | (simp only [List.length_drop, List.length_take]; rfl)) ?_; (with_reducible refine (postbagref04_word.calls t168 t169 _ A15.out).mono ?_); rintro e w' ⟨rfl, ⟨nd, rfl⟩⟩; refine ⟨_, rfl, ?_⟩))
                go_ret2
                exact ⟨by first | rfl | (simp; done) | (simp [*]; done), by repeat (first | exact Drawn0.refl _ | apply Drawn0.step)⟩
              · replace c13 := Bool.eq_false_iff.mpr c13
                subst c13
                have H1 : (if a0 = 48 then (postbagref04_narrow.j2 kj10 a1 a2 (wrap64 (t165)) a0 (a0 == 48)) else (postbagref04_narrow.j2 kj10 a1 a2 (wrap64 (t165)) a0 (a0 == 43))) = some (r1, r2) := by rw [if_neg (show ¬ (false = true) by decide)] at H; exact H
                clear H
                have H := H1
                clear H1
                have HC16 := Aside0.mk H
                clear H
                go_upto_if 33 with (fail)
                go_cut [33] (fun v33 wc => ∃ (kq : Nat) (x33_15 : Bool), v33 = .bool x33_15 ∧ Aside0 (postbagref04_narrow.j2 kq a1 a2 (wrap64 (t165)) a0 x33_15 = some (r1, r2)) ∧ Aside0 (kq ≤ kj10) ∧ Drawn0 w wc)
                case first =>
                  have H := HC16.out
                  clear HC16
                  by_cases c17 : a0 = 48
                  · rw [if_pos c17] at H
                    have c17b0 : (a0 == 48) = true := beq_iff_eq.mpr c17
                    have c17b1 : (a0 != 48) = false := bne_eq_false_iff_eq.mpr c17
                    clear c17
                    (first | rw [c17b0] | (simp only [i64_w, i32_w]; rw [c17b0]) | skip)
                    have H' := Aside0.mk H
                    clear H
                    go_wp2
                    go_meet
                    case rel => exact ⟨_, ((a0 == 48)), (by first | rfl | (simp; done) | (simp [*]; done)), H', ⟨by have := HJ4.out; have := HJ10.out; first | omega | exact Nat.le_refl _⟩, by repeat (first | exact Drawn0.refl _ | apply Drawn0.step)⟩
                  · rw [if_neg c17] at H
                    have c17b0 : (a0 == 48) = false := beq_eq_false_iff_ne.mpr c17
                    have c17b1 : (a0 != 48) = true := bne_iff_ne.mpr c17
                    (first | rw [c17b0] | (simp only [i64_w, i32_w]; rw [c17b0]) | skip)
                    have H' := Aside0.mk H
                    clear H
                    go_wp2
                    go_meet
                    case rel => exact ⟨_, ((a0 == 43)), (by first | rfl | (simp; done) | (simp [*]; done)), H', ⟨by have := HJ4.out; have := HJ10.out; first | omega | exact Nat.le_refl _⟩, by repeat (first | exact Drawn0.refl _ | apply Drawn0.step)⟩
                case rest =>
                  clear HC16
                  try clear c1
                  try clear p2
                  try clear c3
                  try clear c4
                  try clear c6
                  try clear c6b0
                  try clear c6b1
                  try clear p6
                  try clear c7
                  try clear c9
                  try clear c9b0
                  try clear c9b1
                  try clear c10
                  try clear c12
                  try clear c12b0
                  try clear c12b1
                  try clear c13
                  try clear c17
                  try clear c17b0
                  try clear c17b1
                  try clear p2
                  try clear p6
                  obtain ⟨kq, x33_15, rfl, HA, HJ15, ⟨mc15, rfl⟩⟩ := hcut
                  cases kq with
                  | zero => exact absurd HA.out (by simp [postbagref04_narrow.j2])
                  | succ kj15 =>
                    have H := HA.out
                    clear HA
                    simp only [postbagref04_narrow.j2] at H
                    by_cases c18 : x33_15 = true
                    · subst c18
                      have H1 : ((postbagref04_low.f a1).bind fun t170 => ((postbagref04_right.f kj15 t170 (wrap64 (t165)) 0).bind fun t171 => ((postbagref04_word.f t171).bind fun t172 => (some (t172, true))))) = some (r1, r2) := by rw [if_pos rfl] at H; exact H
                      clear H
                      have H := H1
                      clear H1
                      replace H := Option.bind_eq_some_iff.mp H
                      obtain ⟨t170, A190, H⟩ := H
                      replace H : ((postbagref04_right.f kj15 t170 (wrap64 (t165)) 0).bind fun t171 => ((postbagref04_word.f t171).bind fun t172 => (some (t172, true)))) = some (r1, r2) := H
                      have A19 := Aside0.mk A190
                      clear A190
                      replace H := Option.bind_eq_some_iff.mp H
                      obtain ⟨t171, A200, H⟩ := H
                      replace H : ((postbagref04_word.f t171).bind fun t172 => (some (t172, true))) = some (r1, r2) := H
                      have A20 := Aside0.mk A200
                      clear A200
                      replace H := Option.bind_eq_some_iff.mp H
                      obtain ⟨t172, A210, H⟩ := H
                      replace H : (some (t172, true)) = some (r1, r2) := H
                      have A21 := Aside0.mk A210
                      clear A210
                      simp only [Option.some.injEq, Prod.mk.injEq] at H
                      obtain ⟨rfl, rfl⟩ := H
                      go_wp2_with (first | ((with_reducible refine gate_callee (f := 72) rfl ?_); refine goesL_ (some 37) rfl rfl Try.func72 (by kernel_rfl) rfl #[.int .u64 a1] rfl (by (try simp only [List.map_toArray, List.map_cons, List.map_nil]); first | done | rfl | (simp only [List.length_drop, List.length_take]; rfl)) ?_; (with_reducible refine (postbagref04_low.calls a1 t170 _ A19.out).mono ?_); rintro e w' ⟨rfl, ⟨nd, rfl⟩⟩; refine ⟨_, rfl, ?_⟩) | ((with_reducible refine gate_callee (f := 68) rfl ?_); refine goesL_ (some 39) rfl rfl Try.func68 (by kernel_rfl) rfl #[.int .u64 t170, .int .i64 (wrap64 (t165)), .int .u64 0] rfl (by (try simp only [List.map_toArray, List.map_cons, List.map_nil]); first | done | rfl | (simp only [List.length_drop, List.length_take]; rfl)) ?_; (with_reducible refine (postbagref04_right.calls kj15 t170 (wrap64 (t165)) 0 t171 _ A20.out).mono ?_); rintro e w' ⟨rfl, ⟨nd, rfl⟩⟩; refine ⟨_, rfl, ?_⟩) | ((with_reducible refine gate_callee (f := 71) rfl ?_); refine goesL_ (some 40) rfl rfl Try.func71 (by kernel_rfl) rfl #[.int .u64 t171] rfl (by (try simp only [List.map_toArray, List.map_cons, List.map_nil]); first | done | rfl | (simp only [List.length_drop, List.length_take]; rfl)) ?_; (with_reducible refine (postbagref04_word.calls t171 t172 _ A21.out).mono ?_); rintro e w' ⟨rfl, ⟨nd, rfl⟩⟩; refine ⟨_, rfl, ?_⟩))
                      go_ret2
                      exact ⟨by first | rfl | (simp; done) | (simp [*]; done), by repeat (first | exact Drawn0.refl _ | apply Drawn0.step)⟩
                    · replace c18 := Bool.eq_false_iff.mpr c18
                      subst c18
                      have H1 : (if a0 = 49 then (postbagref04_narrow.j3 kj15 a1 a2 (wrap64 (t165)) a0 (a0 == 49)) else (postbagref04_narrow.j3 kj15 a1 a2 (wrap64 (t165)) a0 (a0 == 44))) = some (r1, r2) := by rw [if_neg (show ¬ (false = true) by decide)] at H; exact H
                      clear H
                      have H := H1
                      clear H1
                      have HC22 := Aside0.mk H
                      clear H
                      go_upto_if 41 with (fail)
                      go_cut [41] (fun v41 wc => ∃ (kq : Nat) (x41_21 : Bool), v41 = .bool x41_21 ∧ Aside0 (postbagref04_narrow.j3 kq a1 a2 (wrap64 (t165)) a0 x41_21 = some (r1, r2)) ∧ Aside0 (kq ≤ kj15) ∧ Drawn0 w wc)
                      case first =>
                        have H := HC22.out
                        clear HC22
                        by_cases c23 : a0 = 49
                        · rw [if_pos c23] at H
                          have c23b0 : (a0 == 49) = true := beq_iff_eq.mpr c23
                          have c23b1 : (a0 != 49) = false := bne_eq_false_iff_eq.mpr c23
                          clear c23
                          (first | rw [c23b0] | (simp only [i64_w, i32_w]; rw [c23b0]) | skip)
                          have H' := Aside0.mk H
                          clear H
                          go_wp2
                          go_meet
                          case rel => exact ⟨_, ((a0 == 49)), (by first | rfl | (simp; done) | (simp [*]; done)), H', ⟨by have := HJ4.out; have := HJ10.out; have := HJ15.out; first | omega | exact Nat.le_refl _⟩, by repeat (first | exact Drawn0.refl _ | apply Drawn0.step)⟩
                        · rw [if_neg c23] at H
                          have c23b0 : (a0 == 49) = false := beq_eq_false_iff_ne.mpr c23
                          have c23b1 : (a0 != 49) = true := bne_iff_ne.mpr c23
                          (first | rw [c23b0] | (simp only [i64_w, i32_w]; rw [c23b0]) | skip)
                          have H' := Aside0.mk H
                          clear H
                          go_wp2
                          go_meet
                          case rel => exact ⟨_, ((a0 == 44)), (by first | rfl | (simp; done) | (simp [*]; done)), H', ⟨by have := HJ4.out; have := HJ10.out; have := HJ15.out; first | omega | exact Nat.le_refl _⟩, by repeat (first | exact Drawn0.refl _ | apply Drawn0.step)⟩
                      case rest =>
                        clear HC22
                        try clear c1
                        try clear c2
                        try clear p2
                        try clear c3
                        try clear c4
                        try clear c6
                        try clear c6b0
                        try clear c6b1
                        try clear p6
                        try clear c7
                        try clear c9
                        try clear c9b0
                        try clear c9b1
                        try clear c10
                        try clear c12
                        try clear c12b0
                        try clear c12b1
                        try clear c13
                        try clear c15
                        try clear c17
                        try clear c17b0
                        try clear c17b1
                        try clear c18
                        try clear c23
                        try clear c23b0
                        try clear c23b1
                        try clear p2
                        try clear p6
                        obtain ⟨kq, x41_21, rfl, HA, HJ21, ⟨mc21, rfl⟩⟩ := hcut
                        cases kq with
                        | zero => exact absurd HA.out (by simp [postbagref04_narrow.j3])
                        | succ kj21 =>
                          have H := HA.out
                          clear HA
                          simp only [postbagref04_narrow.j3] at H
                          by_cases c24 : x41_21 = true
                          · subst c24
                            have H1 : ((postbagref04_word.f a1).bind fun t173 => ((postbagref01_Bit.f a1 31).bind fun t174 => ((postbagref04_right.f kj21 t173 (wrap64 (t165)) t174).bind fun t175 => ((postbagref04_word.f t175).bind fun t176 => (some (t176, true)))))) = some (r1, r2) := by rw [if_pos rfl] at H; exact H
                            clear H
                            have H := H1
                            clear H1
                            replace H := Option.bind_eq_some_iff.mp H
                            obtain ⟨t173, A250, H⟩ := H
                            replace H : ((postbagref01_Bit.f a1 31).bind fun t174 => ((postbagref04_right.f kj21 t173 (wrap64 (t165)) t174).bind fun t175 => ((postbagref04_word.f t175).bind fun t176 => (some (t176, true))))) = some (r1, r2) := H
                            have A25 := Aside0.mk A250
                            clear A250
                            replace H := Option.bind_eq_some_iff.mp H
                            obtain ⟨t174, A260, H⟩ := H
                            replace H : ((postbagref04_right.f kj21 t173 (wrap64 (t165)) t174).bind fun t175 => ((postbagref04_word.f t175).bind fun t176 => (some (t176, true)))) = some (r1, r2) := H
                            have A26 := Aside0.mk A260
                            clear A260
                            replace H := Option.bind_eq_some_iff.mp H
                            obtain ⟨t175, A270, H⟩ := H
                            replace H : ((postbagref04_word.f t175).bind fun t176 => (some (t176, true))) = some (r1, r2) := H
                            have A27 := Aside0.mk A270
                            clear A270
                            replace H := Option.bind_eq_some_iff.mp H
                            obtain ⟨t176, A280, H⟩ := H
                            replace H : (some (t176, true)) = some (r1, r2) := H
                            have A28 := Aside0.mk A280
                            clear A280
                            simp only [Option.some.injEq, Prod.mk.injEq] at H
                            obtain ⟨rfl, rfl⟩ := H
                            go_wp2_with (first | ((with_reducible refine gate_callee (f := 71) rfl ?_); refine goesL_ (some 45) rfl rfl Try.func71 (by kernel_rfl) rfl #[.int .u64 a1] rfl (by (try simp only [List.map_toArray, List.map_cons, List.map_nil]); first | done | rfl | (simp only [List.length_drop, List.length_take]; rfl)) ?_; (with_reducible refine (postbagref04_word.calls a1 t173 _ A25.out).mono ?_); rintro e w' ⟨rfl, ⟨nd, rfl⟩⟩; refine ⟨_, rfl, ?_⟩) | ((with_reducible refine gate_callee (f := 69) rfl ?_); refine goesL_ (some 48) rfl rfl Try.func69 (by kernel_rfl) rfl #[.int .u64 a1, .int .i64 31] rfl (by (try simp only [List.map_toArray, List.map_cons, List.map_nil]); first | done | rfl | (simp only [List.length_drop, List.length_take]; rfl)) ?_; (with_reducible refine (postbagref01_Bit.calls a1 31 t174 _ A26.out).mono ?_); rintro e w' ⟨rfl, ⟨nd, rfl⟩⟩; refine ⟨_, rfl, ?_⟩) | ((with_reducible refine gate_callee (f := 68) rfl ?_); refine goesL_ (some 49) rfl rfl Try.func68 (by kernel_rfl) rfl #[.int .u64 t173, .int .i64 (wrap64 (t165)), .int .u64 t174] rfl (by (try simp only [List.map_toArray, List.map_cons, List.map_nil]); first | done | rfl | (simp only [List.length_drop, List.length_take]; rfl)) ?_; (with_reducible refine (postbagref04_right.calls kj21 t173 (wrap64 (t165)) t174 t175 _ A27.out).mono ?_); rintro e w' ⟨rfl, ⟨nd, rfl⟩⟩; refine ⟨_, rfl, ?_⟩) | ((with_reducible refine gate_callee (f := 71) rfl ?_); refine goesL_ (some 50) rfl rfl Try.func71 (by kernel_rfl) rfl #[.int .u64 t175] rfl (by (try simp only [List.map_toArray, List.map_cons, List.map_nil]); first | done | rfl | (simp only [List.length_drop, List.length_take]; rfl)) ?_; (with_reducible refine (postbagref04_word.calls t175 t176 _ A28.out).mono ?_); rintro e w' ⟨rfl, ⟨nd, rfl⟩⟩; refine ⟨_, rfl, ?_⟩))
                            go_ret2
                            exact ⟨by first | rfl | (simp; done) | (simp [*]; done), by repeat (first | exact Drawn0.refl _ | apply Drawn0.step)⟩
                          · replace c24 := Bool.eq_false_iff.mpr c24
                            subst c24
                            have H1 : (if a0 = 61 then ((postbagref04_word.f (IntKind.u64.wrap (a1 * a2))).bind fun t177 => (some (t177, true))) else (if a0 = 62 then ((postbagref04_word.f a1).bind fun t178 => ((postbagref04_word.f a2).bind fun t179 => ((postbagref01_Quo.f t178 t179 true).bind fun t180 => ((postbagref04_word.f t180).bind fun t181 => (some (t181, true)))))) else (if a0 = 63 then ((postbagref04_low.f a1).bind fun t182 => ((postbagref04_low.f a2).bind fun t183 => ((postbagref01_Quo.f t182 t183 false).bind fun t184 => ((postbagref04_word.f t184).bind fun t185 => (some (t185, true)))))) else (if a0 = 64 then ((postbagref04_word.f a1).bind fun t186 => ((postbagref04_word.f a2).bind fun t187 => ((postbagref01_Rem.f t186 t187 true).bind fun t188 => ((postbagref04_word.f t188).bind fun t189 => (some (t189, true)))))) else (if a0 = 65 then ((postbagref04_low.f a1).bind fun t190 => ((postbagref04_low.f a2).bind fun t191 => ((postbagref01_Rem.f t190 t191 false).bind fun t192 => ((postbagref04_word.f t192).bind fun t193 => (some (t193, true)))))) else (some (0, false))))))) = some (r1, r2) := by rw [if_neg (show ¬ (false = true) by decide)] at H; exact H
                            clear H
                            have H := H1
                            clear H1
                            by_cases c29 : a0 = 61
                            · rw [if_pos c29] at H
                              have c29b0 : (a0 == 61) = true := beq_iff_eq.mpr c29
                              have c29b1 : (a0 != 61) = false := bne_eq_false_iff_eq.mpr c29
                              clear c29
                              replace H := Option.bind_eq_some_iff.mp H
                              obtain ⟨t177, A300, H⟩ := H
                              replace H : (some (t177, true)) = some (r1, r2) := H
                              have A30 := Aside0.mk A300
                              clear A300
                              simp only [Option.some.injEq, Prod.mk.injEq] at H
                              obtain ⟨rfl, rfl⟩ := H
                              go_wp2_with (first | ((with_reducible refine gate_callee (f := 71) rfl ?_); refine goesL_ (some 56) rfl rfl Try.func71 (by kernel_rfl) rfl #[.int .u64 (IntKind.u64.wrap (a1 * a2))] rfl (by (try simp only [List.map_toArray, List.map_cons, List.map_nil]); first | done | rfl | (simp only [List.length_drop, List.length_take]; rfl)) ?_; (with_reducible refine (postbagref04_word.calls (IntKind.u64.wrap (a1 * a2)) t177 _ A30.out).mono ?_); rintro e w' ⟨rfl, ⟨nd, rfl⟩⟩; refine ⟨_, rfl, ?_⟩))
                              go_ret2
                              exact ⟨by first | rfl | (simp; done) | (simp [*]; done), by repeat (first | exact Drawn0.refl _ | apply Drawn0.step)⟩
                            · rw [if_neg c29] at H
                              have c29b0 : (a0 == 61) = false := beq_eq_false_iff_ne.mpr c29
                              have c29b1 : (a0 != 61) = true := bne_iff_ne.mpr c29
                              by_cases c31 : a0 = 62
                              · rw [if_pos c31] at H
                                have c31b0 : (a0 == 62) = true := beq_iff_eq.mpr c31
                                have c31b1 : (a0 != 62) = false := bne_eq_false_iff_eq.mpr c31
                                clear c31
                                replace H := Option.bind_eq_some_iff.mp H
                                obtain ⟨t178, A320, H⟩ := H
                                replace H : ((postbagref04_word.f a2).bind fun t179 => ((postbagref01_Quo.f t178 t179 true).bind fun t180 => ((postbagref04_word.f t180).bind fun t181 => (some (t181, true))))) = some (r1, r2) := H
                                have A32 := Aside0.mk A320
                                clear A320
                                replace H := Option.bind_eq_some_iff.mp H
                                obtain ⟨t179, A330, H⟩ := H
                                replace H : ((postbagref01_Quo.f t178 t179 true).bind fun t180 => ((postbagref04_word.f t180).bind fun t181 => (some (t181, true)))) = some (r1, r2) := H
                                have A33 := Aside0.mk A330
                                clear A330
                                replace H := Option.bind_eq_some_iff.mp H
                                obtain ⟨t180, A340, H⟩ := H
                                replace H : ((postbagref04_word.f t180).bind fun t181 => (some (t181, true))) = some (r1, r2) := H
                                have A34 := Aside0.mk A340
                                clear A340
                                replace H := Option.bind_eq_some_iff.mp H
                                obtain ⟨t181, A350, H⟩ := H
                                replace H : (some (t181, true)) = some (r1, r2) := H
                                have A35 := Aside0.mk A350
                                clear A350
                                simp only [Option.some.injEq, Prod.mk.injEq] at H
                                obtain ⟨rfl, rfl⟩ := H
                                go_wp2_with (first | ((with_reducible refine gate_callee (f := 71) rfl ?_); refine goesL_ (some 60) rfl rfl Try.func71 (by kernel_rfl) rfl #[.int .u64 a1] rfl (by (try simp only [List.map_toArray, List.map_cons, List.map_nil]); first | done | rfl | (simp only [List.length_drop, List.length_take]; rfl)) ?_; (with_reducible refine (postbagref04_word.calls a1 t178 _ A32.out).mono ?_); rintro e w' ⟨rfl, ⟨nd, rfl⟩⟩; refine ⟨_, rfl, ?_⟩) | ((with_reducible refine gate_callee (f := 71) rfl ?_); refine goesL_ (some 62) rfl rfl Try.func71 (by kernel_rfl) rfl #[.int .u64 a2] rfl (by (try simp only [List.map_toArray, List.map_cons, List.map_nil]); first | done | rfl | (simp only [List.length_drop, List.length_take]; rfl)) ?_; (with_reducible refine (postbagref04_word.calls a2 t179 _ A33.out).mono ?_); rintro e w' ⟨rfl, ⟨nd, rfl⟩⟩; refine ⟨_, rfl, ?_⟩) | ((with_reducible refine gate_callee (f := 73) rfl ?_); refine goesL_ (some 63) rfl rfl Try.func73 (by kernel_rfl) rfl #[.int .u64 t178, .int .u64 t179, .bool true] rfl (by (try simp only [List.map_toArray, List.map_cons, List.map_nil]); first | done | rfl | (simp only [List.length_drop, List.length_take]; rfl)) ?_; (with_reducible refine (postbagref01_Quo.calls t178 t179 true t180 _ A34.out).mono ?_); rintro e w' ⟨rfl, ⟨nd, rfl⟩⟩; refine ⟨_, rfl, ?_⟩) | ((with_reducible refine gate_callee (f := 71) rfl ?_); refine goesL_ (some 64) rfl rfl Try.func71 (by kernel_rfl) rfl #[.int .u64 t180] rfl (by (try simp only [List.map_toArray, List.map_cons, List.map_nil]); first | done | rfl | (simp only [List.length_drop, List.length_take]; rfl)) ?_; (with_reducible refine (postbagref04_word.calls t180 t181 _ A35.out).mono ?_); rintro e w' ⟨rfl, ⟨nd, rfl⟩⟩; refine ⟨_, rfl, ?_⟩))
                                go_ret2
                                exact ⟨by first | rfl | (simp; done) | (simp [*]; done), by repeat (first | exact Drawn0.refl _ | apply Drawn0.step)⟩
                              · rw [if_neg c31] at H
                                have c31b0 : (a0 == 62) = false := beq_eq_false_iff_ne.mpr c31
                                have c31b1 : (a0 != 62) = true := bne_iff_ne.mpr c31
                                by_cases c36 : a0 = 63
                                · rw [if_pos c36] at H
                                  have c36b0 : (a0 == 63) = true := beq_iff_eq.mpr c36
                                  have c36b1 : (a0 != 63) = false := bne_eq_false_iff_eq.mpr c36
                                  clear c36
                                  replace H := Option.bind_eq_some_iff.mp H
                                  obtain ⟨t182, A370, H⟩ := H
                                  replace H : ((postbagref04_low.f a2).bind fun t183 => ((postbagref01_Quo.f t182 t183 false).bind fun t184 => ((postbagref04_word.f t184).bind fun t185 => (some (t185, true))))) = some (r1, r2) := H
                                  have A37 := Aside0.mk A370
                                  clear A370
                                  replace H := Option.bind_eq_some_iff.mp H
                                  obtain ⟨t183, A380, H⟩ := H
                                  replace H : ((postbagref01_Quo.f t182 t183 false).bind fun t184 => ((postbagref04_word.f t184).bind fun t185 => (some (t185, true)))) = some (r1, r2) := H
                                  have A38 := Aside0.mk A380
                                  clear A380
                                  replace H := Option.bind_eq_some_iff.mp H
                                  obtain ⟨t184, A390, H⟩ := H
                                  replace H : ((postbagref04_word.f t184).bind fun t185 => (some (t185, true))) = some (r1, r2) := H
                                  have A39 := Aside0.mk A390
                                  clear A390
                                  replace H := Option.bind_eq_some_iff.mp H
                                  obtain ⟨t185, A400, H⟩ := H
                                  replace H : (some (t185, true)) = some (r1, r2) := H
                                  have A40 := Aside0.mk A400
                                  clear A400
                                  simp only [Option.some.injEq, Prod.mk.injEq] at H
                                  obtain ⟨rfl, rfl⟩ := H
                                  go_wp2_with (first | ((with_reducible refine gate_callee (f := 72) rfl ?_); refine goesL_ (some 68) rfl rfl Try.func72 (by kernel_rfl) rfl #[.int .u64 a1] rfl (by (try simp only [List.map_toArray, List.map_cons, List.map_nil]); first | done | rfl | (simp only [List.length_drop, List.length_take]; rfl)) ?_; (with_reducible refine (postbagref04_low.calls a1 t182 _ A37.out).mono ?_); rintro e w' ⟨rfl, ⟨nd, rfl⟩⟩; refine ⟨_, rfl, ?_⟩) | ((with_reducible refine gate_callee (f := 72) rfl ?_); refine goesL_ (some 70) rfl rfl Try.func72 (by kernel_rfl) rfl #[.int .u64 a2] rfl (by (try simp only [List.map_toArray, List.map_cons, List.map_nil]); first | done | rfl | (simp only [List.length_drop, List.length_take]; rfl)) ?_; (with_reducible refine (postbagref04_low.calls a2 t183 _ A38.out).mono ?_); rintro e w' ⟨rfl, ⟨nd, rfl⟩⟩; refine ⟨_, rfl, ?_⟩) | ((with_reducible refine gate_callee (f := 73) rfl ?_); refine goesL_ (some 71) rfl rfl Try.func73 (by kernel_rfl) rfl #[.int .u64 t182, .int .u64 t183, .bool false] rfl (by (try simp only [List.map_toArray, List.map_cons, List.map_nil]); first | done | rfl | (simp only [List.length_drop, List.length_take]; rfl)) ?_; (with_reducible refine (postbagref01_Quo.calls t182 t183 false t184 _ A39.out).mono ?_); rintro e w' ⟨rfl, ⟨nd, rfl⟩⟩; refine ⟨_, rfl, ?_⟩) | ((with_reducible refine gate_callee (f := 71) rfl ?_); refine goesL_ (some 72) rfl rfl Try.func71 (by kernel_rfl) rfl #[.int .u64 t184] rfl (by (try simp only [List.map_toArray, List.map_cons, List.map_nil]); first | done | rfl | (simp only [List.length_drop, List.length_take]; rfl)) ?_; (with_reducible refine (postbagref04_word.calls t184 t185 _ A40.out).mono ?_); rintro e w' ⟨rfl, ⟨nd, rfl⟩⟩; refine ⟨_, rfl, ?_⟩))
                                  go_ret2
                                  exact ⟨by first | rfl | (simp; done) | (simp [*]; done), by repeat (first | exact Drawn0.refl _ | apply Drawn0.step)⟩
                                · rw [if_neg c36] at H
                                  have c36b0 : (a0 == 63) = false := beq_eq_false_iff_ne.mpr c36
                                  have c36b1 : (a0 != 63) = true := bne_iff_ne.mpr c36
                                  by_cases c41 : a0 = 64
                                  · rw [if_pos c41] at H
                                    have c41b0 : (a0 == 64) = true := beq_iff_eq.mpr c41
                                    have c41b1 : (a0 != 64) = false := bne_eq_false_iff_eq.mpr c41
                                    clear c41
                                    replace H := Option.bind_eq_some_iff.mp H
                                    obtain ⟨t186, A420, H⟩ := H
                                    replace H : ((postbagref04_word.f a2).bind fun t187 => ((postbagref01_Rem.f t186 t187 true).bind fun t188 => ((postbagref04_word.f t188).bind fun t189 => (some (t189, true))))) = some (r1, r2) := H
                                    have A42 := Aside0.mk A420
                                    clear A420
                                    replace H := Option.bind_eq_some_iff.mp H
                                    obtain ⟨t187, A430, H⟩ := H
                                    replace H : ((postbagref01_Rem.f t186 t187 true).bind fun t188 => ((postbagref04_word.f t188).bind fun t189 => (some (t189, true)))) = some (r1, r2) := H
                                    have A43 := Aside0.mk A430
                                    clear A430
                                    replace H := Option.bind_eq_some_iff.mp H
                                    obtain ⟨t188, A440, H⟩ := H
                                    replace H : ((postbagref04_word.f t188).bind fun t189 => (some (t189, true))) = some (r1, r2) := H
                                    have A44 := Aside0.mk A440
                                    clear A440
                                    replace H := Option.bind_eq_some_iff.mp H
                                    obtain ⟨t189, A450, H⟩ := H
                                    replace H : (some (t189, true)) = some (r1, r2) := H
                                    have A45 := Aside0.mk A450
                                    clear A450
                                    simp only [Option.some.injEq, Prod.mk.injEq] at H
                                    obtain ⟨rfl, rfl⟩ := H
                                    go_wp2_with (first | ((with_reducible refine gate_callee (f := 71) rfl ?_); refine goesL_ (some 76) rfl rfl Try.func71 (by kernel_rfl) rfl #[.int .u64 a1] rfl (by (try simp only [List.map_toArray, List.map_cons, List.map_nil]); first | done | rfl | (simp only [List.length_drop, List.length_take]; rfl)) ?_; (with_reducible refine (postbagref04_word.calls a1 t186 _ A42.out).mono ?_); rintro e w' ⟨rfl, ⟨nd, rfl⟩⟩; refine ⟨_, rfl, ?_⟩) | ((with_reducible refine gate_callee (f := 71) rfl ?_); refine goesL_ (some 78) rfl rfl Try.func71 (by kernel_rfl) rfl #[.int .u64 a2] rfl (by (try simp only [List.map_toArray, List.map_cons, List.map_nil]); first | done | rfl | (simp only [List.length_drop, List.length_take]; rfl)) ?_; (with_reducible refine (postbagref04_word.calls a2 t187 _ A43.out).mono ?_); rintro e w' ⟨rfl, ⟨nd, rfl⟩⟩; refine ⟨_, rfl, ?_⟩) | ((with_reducible refine gate_callee (f := 74) rfl ?_); refine goesL_ (some 79) rfl rfl Try.func74 (by kernel_rfl) rfl #[.int .u64 t186, .int .u64 t187, .bool true] rfl (by (try simp only [List.map_toArray, List.map_cons, List.map_nil]); first | done | rfl | (simp only [List.length_drop, List.length_take]; rfl)) ?_; (with_reducible refine (postbagref01_Rem.calls t186 t187 true t188 _ A44.out).mono ?_); rintro e w' ⟨rfl, ⟨nd, rfl⟩⟩; refine ⟨_, rfl, ?_⟩) | ((with_reducible refine gate_callee (f := 71) rfl ?_); refine goesL_ (some 80) rfl rfl Try.func71 (by kernel_rfl) rfl #[.int .u64 t188] rfl (by (try simp only [List.map_toArray, List.map_cons, List.map_nil]); first | done | rfl | (simp only [List.length_drop, List.length_take]; rfl)) ?_; (with_reducible refine (postbagref04_word.calls t188 t189 _ A45.out).mono ?_); rintro e w' ⟨rfl, ⟨nd, rfl⟩⟩; refine ⟨_, rfl, ?_⟩))
                                    go_ret2
                                    exact ⟨by first | rfl | (simp; done) | (simp [*]; done), by repeat (first | exact Drawn0.refl _ | apply Drawn0.step)⟩
                                  · rw [if_neg c41] at H
                                    have c41b0 : (a0 == 64) = false := beq_eq_false_iff_ne.mpr c41
                                    have c41b1 : (a0 != 64) = true := bne_iff_ne.mpr c41
                                    by_cases c46 : a0 = 65
                                    · rw [if_pos c46] at H
                                      have c46b0 : (a0 == 65) = true := beq_iff_eq.mpr c46
                                      have c46b1 : (a0 != 65) = false := bne_eq_false_iff_eq.mpr c46
                                      clear c46
                                      replace H := Option.bind_eq_some_iff.mp H
                                      obtain ⟨t190, A470, H⟩ := H
                                      replace H : ((postbagref04_low.f a2).bind fun t191 => ((postbagref01_Rem.f t190 t191 false).bind fun t192 => ((postbagref04_word.f t192).bind fun t193 => (some (t193, true))))) = some (r1, r2) := H
                                      have A47 := Aside0.mk A470
                                      clear A470
                                      replace H := Option.bind_eq_some_iff.mp H
                                      obtain ⟨t191, A480, H⟩ := H
                                      replace H : ((postbagref01_Rem.f t190 t191 false).bind fun t192 => ((postbagref04_word.f t192).bind fun t193 => (some (t193, true)))) = some (r1, r2) := H
                                      have A48 := Aside0.mk A480
                                      clear A480
                                      replace H := Option.bind_eq_some_iff.mp H
                                      obtain ⟨t192, A490, H⟩ := H
                                      replace H : ((postbagref04_word.f t192).bind fun t193 => (some (t193, true))) = some (r1, r2) := H
                                      have A49 := Aside0.mk A490
                                      clear A490
                                      replace H := Option.bind_eq_some_iff.mp H
                                      obtain ⟨t193, A500, H⟩ := H
                                      replace H : (some (t193, true)) = some (r1, r2) := H
                                      have A50 := Aside0.mk A500
                                      clear A500
                                      simp only [Option.some.injEq, Prod.mk.injEq] at H
                                      obtain ⟨rfl, rfl⟩ := H
                                      go_wp2_with (first | ((with_reducible refine gate_callee (f := 72) rfl ?_); refine goesL_ (some 84) rfl rfl Try.func72 (by kernel_rfl) rfl #[.int .u64 a1] rfl (by (try simp only [List.map_toArray, List.map_cons, List.map_nil]); first | done | rfl | (simp only [List.length_drop, List.length_take]; rfl)) ?_; (with_reducible refine (postbagref04_low.calls a1 t190 _ A47.out).mono ?_); rintro e w' ⟨rfl, ⟨nd, rfl⟩⟩; refine ⟨_, rfl, ?_⟩) | ((with_reducible refine gate_callee (f := 72) rfl ?_); refine goesL_ (some 86) rfl rfl Try.func72 (by kernel_rfl) rfl #[.int .u64 a2] rfl (by (try simp only [List.map_toArray, List.map_cons, List.map_nil]); first | done | rfl | (simp only [List.length_drop, List.length_take]; rfl)) ?_; (with_reducible refine (postbagref04_low.calls a2 t191 _ A48.out).mono ?_); rintro e w' ⟨rfl, ⟨nd, rfl⟩⟩; refine ⟨_, rfl, ?_⟩) | ((with_reducible refine gate_callee (f := 74) rfl ?_); refine goesL_ (some 87) rfl rfl Try.func74 (by kernel_rfl) rfl #[.int .u64 t190, .int .u64 t191, .bool false] rfl (by (try simp only [List.map_toArray, List.map_cons, List.map_nil]); first | done | rfl | (simp only [List.length_drop, List.length_take]; rfl)) ?_; (with_reducible refine (postbagref01_Rem.calls t190 t191 false t192 _ A49.out).mono ?_); rintro e w' ⟨rfl, ⟨nd, rfl⟩⟩; refine ⟨_, rfl, ?_⟩) | ((with_reducible refine gate_callee (f := 71) rfl ?_); refine goesL_ (some 88) rfl rfl Try.func71 (by kernel_rfl) rfl #[.int .u64 t192] rfl (by (try simp only [List.map_toArray, List.map_cons, List.map_nil]); first | done | rfl | (simp only [List.length_drop, List.length_take]; rfl)) ?_; (with_reducible refine (postbagref04_word.calls t192 t193 _ A50.out).mono ?_); rintro e w' ⟨rfl, ⟨nd, rfl⟩⟩; refine ⟨_, rfl, ?_⟩))
                                      go_ret2
                                      exact ⟨by first | rfl | (simp; done) | (simp [*]; done), by repeat (first | exact Drawn0.refl _ | apply Drawn0.step)⟩
                                    · rw [if_neg c46] at H
                                      have c46b0 : (a0 == 65) = false := beq_eq_false_iff_ne.mpr c46
                                      have c46b1 : (a0 != 65) = true := bne_iff_ne.mpr c46
                                      simp only [Option.some.injEq, Prod.mk.injEq] at H
                                      obtain ⟨rfl, rfl⟩ := H
                                      go_wp2
                                      go_ret2
                                      exact ⟨by first | rfl | (simp; done) | (simp [*]; done), by repeat (first | exact Drawn0.refl _ | apply Drawn0.step)⟩

/-! ### postbagref01_high0: function 85 -/
def postbagref01_high0.l0 : Nat → Int → Int → Int → Int → Int → Option (Int)
  | 0, _, _, _, _, _ => none
  | k + 1, x0, x1, x5, x6, x7 => if x7 ≥ 0 then ((postbagref01_Bit.f x6 63).bind fun t194 => ((postbagref01_Bit.f x1 x7).bind fun t195 => (if t195 = 1 then (if (IntKind.u64.wrap ((IntKind.u64.wrap (2 * x6)) + x0)) < (IntKind.u64.wrap (2 * x6)) then (postbagref01_high0.l0 k x0 x1 (IntKind.u64.wrap ((IntKind.u64.wrap ((IntKind.u64.wrap (2 * x5)) + t194)) + 1)) (IntKind.u64.wrap ((IntKind.u64.wrap (2 * x6)) + x0)) (wrap64 (x7 - 1))) else (postbagref01_high0.l0 k x0 x1 (IntKind.u64.wrap ((IntKind.u64.wrap (2 * x5)) + t194)) (IntKind.u64.wrap ((IntKind.u64.wrap (2 * x6)) + x0)) (wrap64 (x7 - 1)))) else (postbagref01_high0.l0 k x0 x1 (IntKind.u64.wrap ((IntKind.u64.wrap (2 * x5)) + t194)) (IntKind.u64.wrap (2 * x6)) (wrap64 (x7 - 1)))))) else (some x5)
def postbagref01_high0.f (k : Nat) (a0 : Int) (a1 : Int) : Option (Int) := postbagref01_high0.l0 k a0 a1 0 0 63
theorem postbagref01_high0.mono_l : ∀ k, (∀ y0 y1 y2 y3 y4, LeO (postbagref01_high0.l0 k y0 y1 y2 y3 y4) (postbagref01_high0.l0 (k + 1) y0 y1 y2 y3 y4))
  | 0 => fun _ _ _ _ _ r h => by simp [postbagref01_high0.l0] at h
  | k + 1 => by
    have ih0 := postbagref01_high0.mono_l k
    · intro y0 y1 y2 y3 y4
      unfold postbagref01_high0.l0
      repeat' first
      | (with_reducible exact ih0 _ _ _ _ _)
      | (with_reducible exact LeO.refl _)
      | (with_reducible exact LeO.none _)
      | (with_reducible refine LeO.ite ?_ ?_)
      | (with_reducible refine LeO.bind ?_ (fun _ => ?_))
      | exact ih0 _ _ _ _ _
      | exact LeO.none _
      | refine LeO.ite ?_ ?_
      | refine LeO.bind ?_ (fun _ => ?_)
theorem postbagref01_high0.mono : ∀ a0 a1 k, LeO (postbagref01_high0.f k a0 a1) (postbagref01_high0.f (k + 1) a0 a1) := by
  intro a0 a1 k
  have ih0 := postbagref01_high0.mono_l k
  unfold postbagref01_high0.f
  repeat' first
      | (with_reducible exact ih0 _ _ _ _ _)
      | (with_reducible exact LeO.refl _)
      | (with_reducible exact LeO.none _)
      | (with_reducible refine LeO.ite ?_ ?_)
      | (with_reducible refine LeO.bind ?_ (fun _ => ?_))
      | exact ih0 _ _ _ _ _
      | exact LeO.none _
      | refine LeO.ite ?_ ?_
      | refine LeO.bind ?_ (fun _ => ?_)
set_option maxHeartbeats 8000000 in
set_option maxRecDepth 100000 in
theorem postbagref01_high0.calls (k : Nat) (a0 : Int) (a1 : Int) (r : Int) (w : World) (h : postbagref01_high0.f k a0 a1 = some r) :
    Calls Try.prog 85 #[.int .u64 a0, .int .u64 a1] w fun e w' => e = .returned (.int .u64 r) ∧ Drawn0 w w' := by
  have H : (postbagref01_high0.l0 k a0 a1 0 0 63) = some r := h
  clear h
  have H' := Aside0.mk H
  clear H
  go_enter Try.func85, Try.ntmps85
  go_wp2
  go_loopg [5, 6, 7] k (fun kq v5 v6 v7 w' => ∃ (x5_1 : Int) (x6_1 : Int) (x7_1 : Int), v5 = .int .u64 x5_1 ∧ v6 = .int .u64 x6_1 ∧ v7 = .int .i64 x7_1 ∧ Aside0 (postbagref01_high0.l0 kq a0 a1 x5_1 x6_1 x7_1 = some r) ∧ Aside0 (kq ≤ k) ∧ Drawn0 w w')
  case atStart => exact ⟨(0), (0), (63), (by first | rfl | (simp; done) | (simp [*]; done)), (by first | rfl | (simp; done) | (simp [*]; done)), (by first | rfl | (simp; done) | (simp [*]; done)), H', ⟨Nat.le_refl _⟩, by repeat (first | exact Drawn0.refl _ | apply Drawn0.step)⟩
  case round =>
    clear H'
    try clear p2
    obtain ⟨x5_1, x6_1, x7_1, rfl, rfl, rfl, HA, HK1, ⟨m1, rfl⟩⟩ := hrel
    cases gk with
    | zero => exact absurd HA.out (by simp [postbagref01_high0.l0])
    | succ k1 =>
      have H := HA.out
      clear HA
      simp only [postbagref01_high0.l0] at H
      by_cases c3 : x7_1 ≥ 0
      · rw [if_pos c3] at H
        have c3b0 : decide (0 ≤ x7_1) = true := decide_eq_true c3
        clear c3
        replace H := Option.bind_eq_some_iff.mp H
        obtain ⟨t194, A40, H⟩ := H
        replace H : ((postbagref01_Bit.f a1 x7_1).bind fun t195 => (if t195 = 1 then (if (IntKind.u64.wrap ((IntKind.u64.wrap (2 * x6_1)) + a0)) < (IntKind.u64.wrap (2 * x6_1)) then (postbagref01_high0.l0 k1 a0 a1 (IntKind.u64.wrap ((IntKind.u64.wrap ((IntKind.u64.wrap (2 * x5_1)) + t194)) + 1)) (IntKind.u64.wrap ((IntKind.u64.wrap (2 * x6_1)) + a0)) (wrap64 (x7_1 - 1))) else (postbagref01_high0.l0 k1 a0 a1 (IntKind.u64.wrap ((IntKind.u64.wrap (2 * x5_1)) + t194)) (IntKind.u64.wrap ((IntKind.u64.wrap (2 * x6_1)) + a0)) (wrap64 (x7_1 - 1)))) else (postbagref01_high0.l0 k1 a0 a1 (IntKind.u64.wrap ((IntKind.u64.wrap (2 * x5_1)) + t194)) (IntKind.u64.wrap (2 * x6_1)) (wrap64 (x7_1 - 1))))) = some r := H
        have A4 := Aside0.mk A40
        clear A40
        replace H := Option.bind_eq_some_iff.mp H
        obtain ⟨t195, A50, H⟩ := H
        replace H : (if t195 = 1 then (if (IntKind.u64.wrap ((IntKind.u64.wrap (2 * x6_1)) + a0)) < (IntKind.u64.wrap (2 * x6_1)) then (postbagref01_high0.l0 k1 a0 a1 (IntKind.u64.wrap ((IntKind.u64.wrap ((IntKind.u64.wrap (2 * x5_1)) + t194)) + 1)) (IntKind.u64.wrap ((IntKind.u64.wrap (2 * x6_1)) + a0)) (wrap64 (x7_1 - 1))) else (postbagref01_high0.l0 k1 a0 a1 (IntKind.u64.wrap ((IntKind.u64.wrap (2 * x5_1)) + t194)) (IntKind.u64.wrap ((IntKind.u64.wrap (2 * x6_1)) + a0)) (wrap64 (x7_1 - 1)))) else (postbagref01_high0.l0 k1 a0 a1 (IntKind.u64.wrap ((IntKind.u64.wrap (2 * x5_1)) + t194)) (IntKind.u64.wrap (2 * x6_1)) (wrap64 (x7_1 - 1)))) = some r := H
        have A5 := Aside0.mk A50
        clear A50
        by_cases c6 : t195 = 1
        · rw [if_pos c6] at H
          have c6b0 : (t195 == 1) = true := beq_iff_eq.mpr c6
          have c6b1 : (t195 != 1) = false := bne_eq_false_iff_eq.mpr c6
          clear c6
          by_cases c7 : (IntKind.u64.wrap ((IntKind.u64.wrap (2 * x6_1)) + a0)) < (IntKind.u64.wrap (2 * x6_1))
          · rw [if_pos c7] at H
            have c7b0 : decide ((IntKind.u64.wrap ((IntKind.u64.wrap (2 * x6_1)) + a0)) < (IntKind.u64.wrap (2 * x6_1))) = true := decide_eq_true c7
            clear c7
            have H' := Aside0.mk H
            clear H
            go_wp2_with (first | ((with_reducible refine gate_callee (f := 69) rfl ?_); refine goesL_ (some 16) rfl rfl Try.func69 (by kernel_rfl) rfl #[.int .u64 x6_1, .int .i64 63] rfl (by (try simp only [List.map_toArray, List.map_cons, List.map_nil]); first | done | rfl | (simp only [List.length_drop, List.length_take]; rfl)) ?_; (with_reducible refine (postbagref01_Bit.calls x6_1 63 t194 _ A4.out).mono ?_); rintro e w' ⟨rfl, ⟨nd, rfl⟩⟩; refine ⟨_, rfl, ?_⟩) | ((with_reducible refine gate_callee (f := 69) rfl ?_); refine goesL_ (some 22) rfl rfl Try.func69 (by kernel_rfl) rfl #[.int .u64 a1, .int .i64 x7_1] rfl (by (try simp only [List.map_toArray, List.map_cons, List.map_nil]); first | done | rfl | (simp only [List.length_drop, List.length_take]; rfl)) ?_; (with_reducible refine (postbagref01_Bit.calls a1 x7_1 t195 _ A5.out).mono ?_); rintro e w' ⟨rfl, ⟨nd, rfl⟩⟩; refine ⟨_, rfl, ?_⟩))
            go_roundg k1
            case measure => have := HK1.out; omega
            case rel => exact ⟨(IntKind.u64.wrap ((IntKind.u64.wrap ((IntKind.u64.wrap (2 * x5_1)) + t194)) + 1)), (IntKind.u64.wrap ((IntKind.u64.wrap (2 * x6_1)) + a0)), (wrap64 (x7_1 - 1)), (by first | rfl | (simp; done) | (simp [*]; done)), (by first | rfl | (simp; done) | (simp [*]; done)), (by first | rfl | (simp; done) | (simp [*]; done)), H', ⟨by have := HK1.out; omega⟩, by repeat (first | exact Drawn0.refl _ | apply Drawn0.step)⟩
          · rw [if_neg c7] at H
            have c7b0 : decide ((IntKind.u64.wrap ((IntKind.u64.wrap (2 * x6_1)) + a0)) < (IntKind.u64.wrap (2 * x6_1))) = false := decide_eq_false c7
            clear c7
            have H' := Aside0.mk H
            clear H
            go_wp2_with (first | ((with_reducible refine gate_callee (f := 69) rfl ?_); refine goesL_ (some 16) rfl rfl Try.func69 (by kernel_rfl) rfl #[.int .u64 x6_1, .int .i64 63] rfl (by (try simp only [List.map_toArray, List.map_cons, List.map_nil]); first | done | rfl | (simp only [List.length_drop, List.length_take]; rfl)) ?_; (with_reducible refine (postbagref01_Bit.calls x6_1 63 t194 _ A4.out).mono ?_); rintro e w' ⟨rfl, ⟨nd, rfl⟩⟩; refine ⟨_, rfl, ?_⟩) | ((with_reducible refine gate_callee (f := 69) rfl ?_); refine goesL_ (some 22) rfl rfl Try.func69 (by kernel_rfl) rfl #[.int .u64 a1, .int .i64 x7_1] rfl (by (try simp only [List.map_toArray, List.map_cons, List.map_nil]); first | done | rfl | (simp only [List.length_drop, List.length_take]; rfl)) ?_; (with_reducible refine (postbagref01_Bit.calls a1 x7_1 t195 _ A5.out).mono ?_); rintro e w' ⟨rfl, ⟨nd, rfl⟩⟩; refine ⟨_, rfl, ?_⟩))
            go_roundg k1
            case measure => have := HK1.out; omega
            case rel => exact ⟨(IntKind.u64.wrap ((IntKind.u64.wrap (2 * x5_1)) + t194)), (IntKind.u64.wrap ((IntKind.u64.wrap (2 * x6_1)) + a0)), (wrap64 (x7_1 - 1)), (by first | rfl | (simp; done) | (simp [*]; done)), (by first | rfl | (simp; done) | (simp [*]; done)), (by first | rfl | (simp; done) | (simp [*]; done)), H', ⟨by have := HK1.out; omega⟩, by repeat (first | exact Drawn0.refl _ | apply Drawn0.step)⟩
        · rw [if_neg c6] at H
          have c6b0 : (t195 == 1) = false := beq_eq_false_iff_ne.mpr c6
          have c6b1 : (t195 != 1) = true := bne_iff_ne.mpr c6
          have H' := Aside0.mk H
          clear H
          go_wp2_with (first | ((with_reducible refine gate_callee (f := 69) rfl ?_); refine goesL_ (some 16) rfl rfl Try.func69 (by kernel_rfl) rfl #[.int .u64 x6_1, .int .i64 63] rfl (by (try simp only [List.map_toArray, List.map_cons, List.map_nil]); first | done | rfl | (simp only [List.length_drop, List.length_take]; rfl)) ?_; (with_reducible refine (postbagref01_Bit.calls x6_1 63 t194 _ A4.out).mono ?_); rintro e w' ⟨rfl, ⟨nd, rfl⟩⟩; refine ⟨_, rfl, ?_⟩) | ((with_reducible refine gate_callee (f := 69) rfl ?_); refine goesL_ (some 22) rfl rfl Try.func69 (by kernel_rfl) rfl #[.int .u64 a1, .int .i64 x7_1] rfl (by (try simp only [List.map_toArray, List.map_cons, List.map_nil]); first | done | rfl | (simp only [List.length_drop, List.length_take]; rfl)) ?_; (with_reducible refine (postbagref01_Bit.calls a1 x7_1 t195 _ A5.out).mono ?_); rintro e w' ⟨rfl, ⟨nd, rfl⟩⟩; refine ⟨_, rfl, ?_⟩))
          go_roundg k1
          case measure => have := HK1.out; omega
          case rel => exact ⟨(IntKind.u64.wrap ((IntKind.u64.wrap (2 * x5_1)) + t194)), (IntKind.u64.wrap (2 * x6_1)), (wrap64 (x7_1 - 1)), (by first | rfl | (simp; done) | (simp [*]; done)), (by first | rfl | (simp; done) | (simp [*]; done)), (by first | rfl | (simp; done) | (simp [*]; done)), H', ⟨by have := HK1.out; omega⟩, by repeat (first | exact Drawn0.refl _ | apply Drawn0.step)⟩
      · rw [if_neg c3] at H
        have c3b0 : decide (0 ≤ x7_1) = false := decide_eq_false c3
        clear c3
        obtain rfl := Option.some.inj H
        go_wp2
        go_ret
        exact ⟨by first | rfl | (simp; done) | (simp [*]; done), by repeat (first | exact Drawn0.refl _ | apply Drawn0.step)⟩
def postbagref01_high.f (a0 : Int) (a1 : Int) : Option (Int) := if U64 a0 ∧ U64 a1 then some (a0 * a1 / 18446744073709551616) else none
theorem postbagref01_high.loop (a b : Int) (ha : U64 a) (hb : U64 b) (i : Nat) : ∀ (k : Nat) (h l : Int), i ≤ 64 → i < k → U64 h → U64 l → h * 18446744073709551616 + l = a * (b / 2 ^ i) →
    postbagref01_high0.l0 k a b h l ((i : Int) - 1) = some (a * b / 18446744073709551616) := by
  induction i with
  | zero =>
    intro k h l hi hk hh hl e
    obtain ⟨k, rfl⟩ : ∃ m, k = m + 1 := ⟨k - 1, by omega⟩
    simp only [postbagref01_high0.l0]
    rw [if_neg (by omega)]
    rw [Int.pow_zero, Int.ediv_one] at e
    unfold U64 at hl
    congr 1; omega
  | succ i ih =>
    intro k h l hi hk hh hl e
    obtain ⟨k, rfl⟩ : ∃ m, k = m + 1 := ⟨k - 1, by omega⟩
    simp only [postbagref01_high0.l0]
    rw [show (((i + 1 : Nat) : Int) - 1) = (i : Int) from by omega, if_pos (by omega), postbagref01_Bit.eq hl, postbagref01_Bit.eq hb, I64.wrap_eq (show I64 ((i : Int) - 1) by unfold I64; omega)]
    simp only [Option.bind_some]
    have hb63 : bitOf l 63 = l / 9223372036854775808 % 2 := bitOf_nat l 63 (by omega)
    have hbi : bitOf b i = b / 2 ^ i % 2 := bitOf_nat b i (by omega)
    have hq : b / 2 ^ i = 2 * (b / 2 ^ (i + 1)) + b / 2 ^ i % 2 := by
      have h2 := Int.emod_add_mul_ediv (b / 2 ^ i) 2
      have h3 : b / 2 ^ i / 2 = b / 2 ^ (i + 1) := by rw [Int.pow_succ, Int.ediv_ediv_of_nonneg (Int.le_of_lt (ipos i))]
      rw [h3] at h2; omega
    have hq0 : 0 ≤ b / 2 ^ i := Int.ediv_nonneg hb.1 (Int.le_of_lt (ipos i))
    have hq1 : b / 2 ^ i ≤ 18446744073709551615 := Int.le_trans (Int.ediv_le_self _ hb.1) hb.2
    have hm0 := Int.mul_nonneg ha.1 hq0
    have hm1 := Int.mul_le_mul ha.2 hq1 hq0 (by decide : (0 : Int) ≤ 18446744073709551615)
    have hm : a * (b / 2 ^ i) = 2 * (a * (b / 2 ^ (i + 1))) + a * (b / 2 ^ i % 2) := by
      have h4 : a * (b / 2 ^ i) = a * (2 * (b / 2 ^ (i + 1)) + b / 2 ^ i % 2) := congrArg (a * ·) hq
      rw [h4, Int.mul_add, Int.mul_left_comm]
    rw [← e] at hm
    generalize hM : a * (b / 2 ^ i) = T at *
    generalize a * (b / 2 ^ (i + 1)) = T2 at *
    rw [hb63, hbi]
    have hbit : b / 2 ^ i % 2 = 0 ∨ b / 2 ^ i % 2 = 1 := by omega
    unfold U64 at hh hl ha
    rcases hbit with hz | hz <;> rw [hz] at hm ⊢
    · rw [if_neg (by decide)]
      rw [Int.mul_zero] at hm
      refine ih k _ _ (by omega) (by omega) (U64.wrap _) (U64.wrap _) ?_
      simp only [u64w]; omega
    · rw [if_pos rfl]
      rw [Int.mul_one] at hm
      by_cases hc : IntKind.u64.wrap (IntKind.u64.wrap (2 * l) + a) < IntKind.u64.wrap (2 * l)
      · rw [if_pos hc]
        refine ih k _ _ (by omega) (by omega) (U64.wrap _) (U64.wrap _) ?_
        simp only [u64w] at *; omega
      · rw [if_neg hc]
        refine ih k _ _ (by omega) (by omega) (U64.wrap _) (U64.wrap _) ?_
        simp only [u64w] at *; omega
theorem postbagref01_high.spec (a0 a1 r : Int) (h : postbagref01_high.f a0 a1 = some r) : ∃ k, postbagref01_high0.f k a0 a1 = some r := by
  unfold postbagref01_high.f at h
  by_cases hu : U64 a0 ∧ U64 a1
  · rw [if_pos hu] at h
    obtain rfl := Option.some.inj h
    refine ⟨66, ?_⟩
    unfold postbagref01_high0.f
    refine postbagref01_high.loop a0 a1 hu.1 hu.2 64 66 0 0 (by omega) (by omega) (by decide) (by decide) ?_
    have : a1 / 2 ^ 64 = 0 := by have := hu.2; unfold U64 at this; show a1 / 18446744073709551616 = 0; omega
    rw [this]; simp
  · rw [if_neg hu] at h; exact absurd h (by simp)


theorem postbagref01_high.calls (a0 : Int) (a1 : Int) (r : Int) (w : World) (h : postbagref01_high.f a0 a1 = some r) :
    Calls Try.prog 85 #[.int .u64 a0, .int .u64 a1] w fun e w' => e = .returned (.int .u64 r) ∧ Drawn0 w w' := by
  obtain ⟨k, hk⟩ := postbagref01_high.spec a0 a1 r h
  exact postbagref01_high0.calls k a0 a1 r w hk

end Go.Proofs.Ytjdidadafccepaa.PAll
