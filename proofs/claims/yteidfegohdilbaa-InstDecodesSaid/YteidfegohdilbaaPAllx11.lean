/- DERIVED. The contracts of the Go functions that one law reaches: each call returns what the plain function beside it says, under that theorem's own premises. Written by a program (hp.py) over the kit's printed words. -/
import Derived.Test.YteidfegohdilbaaPAllx0
import Derived.Test.YteidfegohdilbaaPAllx10
namespace Go.Proofs.Yteidfegohdilbaa.PAll
open Go.RowKit Go.Proofs.YteidfegohdilbaaW.PrintWords Go.Proofs.YteidfegohdilbaaW.PrintLast Go.Proofs.YteidfegohdilbaaW.PrintMore Go.Proofs.Yteidfegohdilbaa.M
attribute [local go_sem] max2_int min2_int max_two min_two max_three min_three max_four min_four   -- for this text's walks alone
set_option linter.unusedVariables false
set_option linter.unusedSimpArgs false

/-! ### postbagref02_value0: function 57 -/
def postbagref02_value0.f (a0 : Int) (a1 : Int) : Option (Int) := if a1 = 1 then ((postbagref02_field.f a0 12 20).bind fun t210 => ((postbagref02_signed.f (IntKind.u64.wrap (t210 * 4096)) 32).bind fun t211 => (some t211))) else (if a1 = 2 then ((postbagref02_field.f a0 31 1).bind fun t212 => ((postbagref02_field.f a0 12 8).bind fun t213 => ((postbagref02_field.f a0 20 1).bind fun t214 => ((postbagref02_field.f a0 21 10).bind fun t215 => ((postbagref02_signed.f (IntKind.u64.wrap ((IntKind.u64.wrap ((IntKind.u64.wrap ((IntKind.u64.wrap (t212 * 1048576)) + (IntKind.u64.wrap (t213 * 4096)))) + (IntKind.u64.wrap (t214 * 2048)))) + (IntKind.u64.wrap (t215 * 2)))) 21).bind fun t216 => (some t216)))))) else (if a1 = 3 then ((postbagref02_field.f a0 20 12).bind fun t217 => ((postbagref02_signed.f t217 12).bind fun t218 => (some t218))) else (if a1 = 4 then ((postbagref02_field.f a0 31 1).bind fun t219 => ((postbagref02_field.f a0 7 1).bind fun t220 => ((postbagref02_field.f a0 25 6).bind fun t221 => ((postbagref02_field.f a0 8 4).bind fun t222 => ((postbagref02_signed.f (IntKind.u64.wrap ((IntKind.u64.wrap ((IntKind.u64.wrap ((IntKind.u64.wrap (t219 * 4096)) + (IntKind.u64.wrap (t220 * 2048)))) + (IntKind.u64.wrap (t221 * 32)))) + (IntKind.u64.wrap (t222 * 2)))) 13).bind fun t223 => (some t223)))))) else (if a1 = 5 then ((postbagref02_field.f a0 25 7).bind fun t224 => ((postbagref02_field.f a0 7 5).bind fun t225 => ((postbagref02_signed.f (IntKind.u64.wrap ((IntKind.u64.wrap (t224 * 32)) + t225)) 12).bind fun t226 => (some t226)))) else (if a1 = 6 then ((postbagref02_field.f a0 20 6).bind fun t227 => (some (wrap64 (t227)))) else (if a1 = 7 then ((postbagref02_field.f a0 20 5).bind fun t228 => (some (wrap64 (t228)))) else (if a1 = 9 then ((postbagref02_field.f a0 20 8).bind fun t229 => (some (wrap64 (t229)))) else (some 0))))))))
set_option maxHeartbeats 8000000 in
set_option maxRecDepth 100000 in
theorem postbagref02_value0.calls (a0 : Int) (a1 : Int) (r : Int) (w : World) (h : postbagref02_value0.f a0 a1 = some r) :
    Calls Try.prog 57 #[.int .u32 a0, .int .i64 a1] w fun e w' => e = .returned (.int .i64 r) ∧ Drawn0 w w' := by
  have H : (if a1 = 1 then ((postbagref02_field.f a0 12 20).bind fun t210 => ((postbagref02_signed.f (IntKind.u64.wrap (t210 * 4096)) 32).bind fun t211 => (some t211))) else (if a1 = 2 then ((postbagref02_field.f a0 31 1).bind fun t212 => ((postbagref02_field.f a0 12 8).bind fun t213 => ((postbagref02_field.f a0 20 1).bind fun t214 => ((postbagref02_field.f a0 21 10).bind fun t215 => ((postbagref02_signed.f (IntKind.u64.wrap ((IntKind.u64.wrap ((IntKind.u64.wrap ((IntKind.u64.wrap (t212 * 1048576)) + (IntKind.u64.wrap (t213 * 4096)))) + (IntKind.u64.wrap (t214 * 2048)))) + (IntKind.u64.wrap (t215 * 2)))) 21).bind fun t216 => (some t216)))))) else (if a1 = 3 then ((postbagref02_field.f a0 20 12).bind fun t217 => ((postbagref02_signed.f t217 12).bind fun t218 => (some t218))) else (if a1 = 4 then ((postbagref02_field.f a0 31 1).bind fun t219 => ((postbagref02_field.f a0 7 1).bind fun t220 => ((postbagref02_field.f a0 25 6).bind fun t221 => ((postbagref02_field.f a0 8 4).bind fun t222 => ((postbagref02_signed.f (IntKind.u64.wrap ((IntKind.u64.wrap ((IntKind.u64.wrap ((IntKind.u64.wrap (t219 * 4096)) + (IntKind.u64.wrap (t220 * 2048)))) + (IntKind.u64.wrap (t221 * 32)))) + (IntKind.u64.wrap (t222 * 2)))) 13).bind fun t223 => (some t223)))))) else (if a1 = 5 then ((postbagref02_field.f a0 25 7).bind fun t224 => ((postbagref02_field.f a0 7 5).bind fun t225 => ((postbagref02_signed.f (IntKind.u64.wrap ((IntKind.u64.wrap (t224 * 32)) + t225)) 12).bind fun t226 => (some t226)))) else (if a1 = 6 then ((postbagref02_field.f a0 20 6).bind fun t227 => (some (wrap64 (t227)))) else (if a1 = 7 then ((postbagref02_field.f a0 20 5).bind fun t228 => (some (wrap64 (t228)))) else (if a1 = 9 then ((postbagref02_field.f a0 20 8).bind fun t229 => (some (wrap64 (t229)))) else (some 0))))))))) = some r := h
  clear h
  by_cases c3 : a1 = 1
  · rw [if_pos c3] at H
    have c3b0 : (a1 == 1) = true := beq_iff_eq.mpr c3
    have c3b1 : (a1 != 1) = false := bne_eq_false_iff_eq.mpr c3
    clear c3
    replace H := Option.bind_eq_some_iff.mp H
    obtain ⟨t210, A40, H⟩ := H
    replace H : ((postbagref02_signed.f (IntKind.u64.wrap (t210 * 4096)) 32).bind fun t211 => (some t211)) = some r := H
    have A4 := Aside0.mk A40
    clear A40
    replace H := Option.bind_eq_some_iff.mp H
    obtain ⟨t211, A50, H⟩ := H
    replace H : (some t211) = some r := H
    have A5 := Aside0.mk A50
    clear A50
    obtain rfl := Option.some.inj H
    go_enter Try.func57, Try.ntmps57
    go_wp2_with (first | ((with_reducible refine gate_callee (f := 58) rfl ?_); refine goesL_ (some 9) rfl rfl Try.func58 (by kernel_rfl) rfl #[.int .u32 a0, .int .i64 12, .int .i64 20] rfl (by (try simp only [List.map_toArray, List.map_cons, List.map_nil]); first | done | rfl | (simp only [List.length_drop, List.length_take]; rfl)) ?_; (with_reducible refine (postbagref02_field.calls a0 12 20 t210 _ A4.out).mono ?_); rintro e w' ⟨rfl, ⟨nd, rfl⟩⟩; refine ⟨_, rfl, ?_⟩) | ((with_reducible refine gate_callee (f := 62) rfl ?_); refine goesL_ (some 11) rfl rfl Try.func62 (by kernel_rfl) rfl #[.int .u64 (IntKind.u64.wrap (t210 * 4096)), .int .i64 32] rfl (by (try simp only [List.map_toArray, List.map_cons, List.map_nil]); first | done | rfl | (simp only [List.length_drop, List.length_take]; rfl)) ?_; (with_reducible refine (postbagref02_signed.calls (IntKind.u64.wrap (t210 * 4096)) 32 t211 _ A5.out).mono ?_); rintro e w' ⟨rfl, ⟨nd, rfl⟩⟩; refine ⟨_, rfl, ?_⟩))
    go_ret
    exact ⟨by first | rfl | (simp; done) | (simp [*]; done), by repeat (first | exact Drawn0.refl _ | apply Drawn0.step)⟩
  · rw [if_neg c3] at H
    have c3b0 : (a1 == 1) = false := beq_eq_false_iff_ne.mpr c3
    have c3b1 : (a1 != 1) = true := bne_iff_ne.mpr c3
    by_cases c6 : a1 = 2
    · rw [if_pos c6] at H
      have c6b0 : (a1 == 2) = true := beq_iff_eq.mpr c6
      have c6b1 : (a1 != 2) = false := bne_eq_false_iff_eq.mpr c6
      clear c6
      replace H := Option.bind_eq_some_iff.mp H
      obtain ⟨t212, A70, H⟩ := H
      replace H : ((postbagref02_field.f a0 12 8).bind fun t213 => ((postbagref02_field.f a0 20 1).bind fun t214 => ((postbagref02_field.f a0 21 10).bind fun t215 => ((postbagref02_signed.f (IntKind.u64.wrap ((IntKind.u64.wrap ((IntKind.u64.wrap ((IntKind.u64.wrap (t212 * 1048576)) + (IntKind.u64.wrap (t213 * 4096)))) + (IntKind.u64.wrap (t214 * 2048)))) + (IntKind.u64.wrap (t215 * 2)))) 21).bind fun t216 => (some t216))))) = some r := H
      have A7 := Aside0.mk A70
      clear A70
      replace H := Option.bind_eq_some_iff.mp H
      obtain ⟨t213, A80, H⟩ := H
      replace H : ((postbagref02_field.f a0 20 1).bind fun t214 => ((postbagref02_field.f a0 21 10).bind fun t215 => ((postbagref02_signed.f (IntKind.u64.wrap ((IntKind.u64.wrap ((IntKind.u64.wrap ((IntKind.u64.wrap (t212 * 1048576)) + (IntKind.u64.wrap (t213 * 4096)))) + (IntKind.u64.wrap (t214 * 2048)))) + (IntKind.u64.wrap (t215 * 2)))) 21).bind fun t216 => (some t216)))) = some r := H
      have A8 := Aside0.mk A80
      clear A80
      replace H := Option.bind_eq_some_iff.mp H
      obtain ⟨t214, A90, H⟩ := H
      replace H : ((postbagref02_field.f a0 21 10).bind fun t215 => ((postbagref02_signed.f (IntKind.u64.wrap ((IntKind.u64.wrap ((IntKind.u64.wrap ((IntKind.u64.wrap (t212 * 1048576)) + (IntKind.u64.wrap (t213 * 4096)))) + (IntKind.u64.wrap (t214 * 2048)))) + (IntKind.u64.wrap (t215 * 2)))) 21).bind fun t216 => (some t216))) = some r := H
      have A9 := Aside0.mk A90
      clear A90
      replace H := Option.bind_eq_some_iff.mp H
      obtain ⟨t215, A100, H⟩ := H
      replace H : ((postbagref02_signed.f (IntKind.u64.wrap ((IntKind.u64.wrap ((IntKind.u64.wrap ((IntKind.u64.wrap (t212 * 1048576)) + (IntKind.u64.wrap (t213 * 4096)))) + (IntKind.u64.wrap (t214 * 2048)))) + (IntKind.u64.wrap (t215 * 2)))) 21).bind fun t216 => (some t216)) = some r := H
      have A10 := Aside0.mk A100
      clear A100
      replace H := Option.bind_eq_some_iff.mp H
      obtain ⟨t216, A110, H⟩ := H
      replace H : (some t216) = some r := H
      have A11 := Aside0.mk A110
      clear A110
      obtain rfl := Option.some.inj H
      go_enter Try.func57, Try.ntmps57
      go_wp2_with (first | ((with_reducible refine gate_callee (f := 58) rfl ?_); refine goesL_ (some 15) rfl rfl Try.func58 (by kernel_rfl) rfl #[.int .u32 a0, .int .i64 31, .int .i64 1] rfl (by (try simp only [List.map_toArray, List.map_cons, List.map_nil]); first | done | rfl | (simp only [List.length_drop, List.length_take]; rfl)) ?_; (with_reducible refine (postbagref02_field.calls a0 31 1 t212 _ A7.out).mono ?_); rintro e w' ⟨rfl, ⟨nd, rfl⟩⟩; refine ⟨_, rfl, ?_⟩) | ((with_reducible refine gate_callee (f := 58) rfl ?_); refine goesL_ (some 18) rfl rfl Try.func58 (by kernel_rfl) rfl #[.int .u32 a0, .int .i64 12, .int .i64 8] rfl (by (try simp only [List.map_toArray, List.map_cons, List.map_nil]); first | done | rfl | (simp only [List.length_drop, List.length_take]; rfl)) ?_; (with_reducible refine (postbagref02_field.calls a0 12 8 t213 _ A8.out).mono ?_); rintro e w' ⟨rfl, ⟨nd, rfl⟩⟩; refine ⟨_, rfl, ?_⟩) | ((with_reducible refine gate_callee (f := 58) rfl ?_); refine goesL_ (some 22) rfl rfl Try.func58 (by kernel_rfl) rfl #[.int .u32 a0, .int .i64 20, .int .i64 1] rfl (by (try simp only [List.map_toArray, List.map_cons, List.map_nil]); first | done | rfl | (simp only [List.length_drop, List.length_take]; rfl)) ?_; (with_reducible refine (postbagref02_field.calls a0 20 1 t214 _ A9.out).mono ?_); rintro e w' ⟨rfl, ⟨nd, rfl⟩⟩; refine ⟨_, rfl, ?_⟩) | ((with_reducible refine gate_callee (f := 58) rfl ?_); refine goesL_ (some 26) rfl rfl Try.func58 (by kernel_rfl) rfl #[.int .u32 a0, .int .i64 21, .int .i64 10] rfl (by (try simp only [List.map_toArray, List.map_cons, List.map_nil]); first | done | rfl | (simp only [List.length_drop, List.length_take]; rfl)) ?_; (with_reducible refine (postbagref02_field.calls a0 21 10 t215 _ A10.out).mono ?_); rintro e w' ⟨rfl, ⟨nd, rfl⟩⟩; refine ⟨_, rfl, ?_⟩) | ((with_reducible refine gate_callee (f := 62) rfl ?_); refine goesL_ (some 29) rfl rfl Try.func62 (by kernel_rfl) rfl #[.int .u64 (IntKind.u64.wrap ((IntKind.u64.wrap ((IntKind.u64.wrap ((IntKind.u64.wrap (t212 * 1048576)) + (IntKind.u64.wrap (t213 * 4096)))) + (IntKind.u64.wrap (t214 * 2048)))) + (IntKind.u64.wrap (t215 * 2)))), .int .i64 21] rfl (by (try simp only [List.map_toArray, List.map_cons, List.map_nil]); first | done | rfl | (simp only [List.length_drop, List.length_take]; rfl)) ?_; (with_reducible refine (postbagref02_signed.calls (IntKind.u64.wrap ((IntKind.u64.wrap ((IntKind.u64.wrap ((IntKind.u64.wrap (t212 * 1048576)) + (IntKind.u64.wrap (t213 * 4096)))) + (IntKind.u64.wrap (t214 * 2048)))) + (IntKind.u64.wrap (t215 * 2)))) 21 t216 _ A11.out).mono ?_); rintro e w' ⟨rfl, ⟨nd, rfl⟩⟩; refine ⟨_, rfl, ?_⟩))
      go_ret
      exact ⟨by first | rfl | (simp; done) | (simp [*]; done), by repeat (first | exact Drawn0.refl _ | apply Drawn0.step)⟩
    · rw [if_neg c6] at H
      have c6b0 : (a1 == 2) = false := beq_eq_false_iff_ne.mpr c6
      have c6b1 : (a1 != 2) = true := bne_iff_ne.mpr c6
      by_cases c12 : a1 = 3
      · rw [if_pos c12] at H
        have c12b0 : (a1 == 3) = true := beq_iff_eq.mpr c12
        have c12b1 : (a1 != 3) = false := bne_eq_false_iff_eq.mpr c12
        clear c12
        replace H := Option.bind_eq_some_iff.mp H
        obtain ⟨t217, A130, H⟩ := H
        replace H : ((postbagref02_signed.f t217 12).bind fun t218 => (some t218)) = some r := H
        have A13 := Aside0.mk A130
        clear A130
        replace H := Option.bind_eq_some_iff.mp H
        obtain ⟨t218, A140, H⟩ := H
        replace H : (some t218) = some r := H
        have A14 := Aside0.mk A140
        clear A140
        obtain rfl := Option.some.inj H
        go_enter Try.func57, Try.ntmps57
        go_wp2_with (first | ((with_reducible refine gate_callee (f := 58) rfl ?_); refine goesL_ (some 33) rfl rfl Try.func58 (by kernel_rfl) rfl #[.int .u32 a0, .int .i64 20, .int .i64 12] rfl (by (try simp only [List.map_toArray, List.map_cons, List.map_nil]); first | done | rfl | (simp only [List.length_drop, List.length_take]; rfl)) ?_; (with_reducible refine (postbagref02_field.calls a0 20 12 t217 _ A13.out).mono ?_); rintro e w' ⟨rfl, ⟨nd, rfl⟩⟩; refine ⟨_, rfl, ?_⟩) | ((with_reducible refine gate_callee (f := 62) rfl ?_); refine goesL_ (some 34) rfl rfl Try.func62 (by kernel_rfl) rfl #[.int .u64 t217, .int .i64 12] rfl (by (try simp only [List.map_toArray, List.map_cons, List.map_nil]); first | done | rfl | (simp only [List.length_drop, List.length_take]; rfl)) ?_; (with_reducible refine (postbagref02_signed.calls t217 12 t218 _ A14.out).mono ?_); rintro e w' ⟨rfl, ⟨nd, rfl⟩⟩; refine ⟨_, rfl, ?_⟩))
        go_ret
        exact ⟨by first | rfl | (simp; done) | (simp [*]; done), by repeat (first | exact Drawn0.refl _ | apply Drawn0.step)⟩
      · rw [if_neg c12] at H
        have c12b0 : (a1 == 3) = false := beq_eq_false_iff_ne.mpr c12
        have c12b1 : (a1 != 3) = true := bne_iff_ne.mpr c12
        by_cases c15 : a1 = 4
        · rw [if_pos c15] at H
          have c15b0 : (a1 == 4) = true := beq_iff_eq.mpr c15
          have c15b1 : (a1 != 4) = false := bne_eq_false_iff_eq.mpr c15
          clear c15
          replace H := Option.bind_eq_some_iff.mp H
          obtain ⟨t219, A160, H⟩ := H
          replace H : ((postbagref02_field.f a0 7 1).bind fun t220 => ((postbagref02_field.f a0 25 6).bind fun t221 => ((postbagref02_field.f a0 8 4).bind fun t222 => ((postbagref02_signed.f (IntKind.u64.wrap ((IntKind.u64.wrap ((IntKind.u64.wrap ((IntKind.u64.wrap (t219 * 4096)) + (IntKind.u64.wrap (t220 * 2048)))) + (IntKind.u64.wrap (t221 * 32)))) + (IntKind.u64.wrap (t222 * 2)))) 13).bind fun t223 => (some t223))))) = some r := H
          have A16 := Aside0.mk A160
          clear A160
          replace H := Option.bind_eq_some_iff.mp H
          obtain ⟨t220, A170, H⟩ := H
          replace H : ((postbagref02_field.f a0 25 6).bind fun t221 => ((postbagref02_field.f a0 8 4).bind fun t222 => ((postbagref02_signed.f (IntKind.u64.wrap ((IntKind.u64.wrap ((IntKind.u64.wrap ((IntKind.u64.wrap (t219 * 4096)) + (IntKind.u64.wrap (t220 * 2048)))) + (IntKind.u64.wrap (t221 * 32)))) + (IntKind.u64.wrap (t222 * 2)))) 13).bind fun t223 => (some t223)))) = some r := H
          have A17 := Aside0.mk A170
          clear A170
          replace H := Option.bind_eq_some_iff.mp H
          obtain ⟨t221, A180, H⟩ := H
          replace H : ((postbagref02_field.f a0 8 4).bind fun t222 => ((postbagref02_signed.f (IntKind.u64.wrap ((IntKind.u64.wrap ((IntKind.u64.wrap ((IntKind.u64.wrap (t219 * 4096)) + (IntKind.u64.wrap (t220 * 2048)))) + (IntKind.u64.wrap (t221 * 32)))) + (IntKind.u64.wrap (t222 * 2)))) 13).bind fun t223 => (some t223))) = some r := H
          have A18 := Aside0.mk A180
          clear A180
          replace H := Option.bind_eq_some_iff.mp H
          obtain ⟨t222, A190, H⟩ := H
          replace H : ((postbagref02_signed.f (IntKind.u64.wrap ((IntKind.u64.wrap ((IntKind.u64.wrap ((IntKind.u64.wrap (t219 * 4096)) + (IntKind.u64.wrap (t220 * 2048)))) + (IntKind.u64.wrap (t221 * 32)))) + (IntKind.u64.wrap (t222 * 2)))) 13).bind fun t223 => (some t223)) = some r := H
          have A19 := Aside0.mk A190
          clear A190
          replace H := Option.bind_eq_some_iff.mp H
          obtain ⟨t223, A200, H⟩ := H
          replace H : (some t223) = some r := H
          have A20 := Aside0.mk A200
          clear A200
          obtain rfl := Option.some.inj H
          go_enter Try.func57, Try.ntmps57
          go_wp2_with (first | ((with_reducible refine gate_callee (f := 58) rfl ?_); refine goesL_ (some 38) rfl rfl Try.func58 (by kernel_rfl) rfl #[.int .u32 a0, .int .i64 31, .int .i64 1] rfl (by (try simp only [List.map_toArray, List.map_cons, List.map_nil]); first | done | rfl | (simp only [List.length_drop, List.length_take]; rfl)) ?_; (with_reducible refine (postbagref02_field.calls a0 31 1 t219 _ A16.out).mono ?_); rintro e w' ⟨rfl, ⟨nd, rfl⟩⟩; refine ⟨_, rfl, ?_⟩) | ((with_reducible refine gate_callee (f := 58) rfl ?_); refine goesL_ (some 41) rfl rfl Try.func58 (by kernel_rfl) rfl #[.int .u32 a0, .int .i64 7, .int .i64 1] rfl (by (try simp only [List.map_toArray, List.map_cons, List.map_nil]); first | done | rfl | (simp only [List.length_drop, List.length_take]; rfl)) ?_; (with_reducible refine (postbagref02_field.calls a0 7 1 t220 _ A17.out).mono ?_); rintro e w' ⟨rfl, ⟨nd, rfl⟩⟩; refine ⟨_, rfl, ?_⟩) | ((with_reducible refine gate_callee (f := 58) rfl ?_); refine goesL_ (some 45) rfl rfl Try.func58 (by kernel_rfl) rfl #[.int .u32 a0, .int .i64 25, .int .i64 6] rfl (by (try simp only [List.map_toArray, List.map_cons, List.map_nil]); first | done | rfl | (simp only [List.length_drop, List.length_take]; rfl)) ?_; (with_reducible refine (postbagref02_field.calls a0 25 6 t221 _ A18.out).mono ?_); rintro e w' ⟨rfl, ⟨nd, rfl⟩⟩; refine ⟨_, rfl, ?_⟩) | ((with_reducible refine gate_callee (f := 58) rfl ?_); refine goesL_ (some 49) rfl rfl Try.func58 (by kernel_rfl) rfl #[.int .u32 a0, .int .i64 8, .int .i64 4] rfl (by (try simp only [List.map_toArray, List.map_cons, List.map_nil]); first | done | rfl | (simp only [List.length_drop, List.length_take]; rfl)) ?_; (with_reducible refine (postbagref02_field.calls a0 8 4 t222 _ A19.out).mono ?_); rintro e w' ⟨rfl, ⟨nd, rfl⟩⟩; refine ⟨_, rfl, ?_⟩) | ((with_reducible refine gate_callee (f := 62) rfl ?_); refine goesL_ (some 52) rfl rfl Try.func62 (by kernel_rfl) rfl #[.int .u64 (IntKind.u64.wrap ((IntKind.u64.wrap ((IntKind.u64.wrap ((IntKind.u64.wrap (t219 * 4096)) + (IntKind.u64.wrap (t220 * 2048)))) + (IntKind.u64.wrap (t221 * 32)))) + (IntKind.u64.wrap (t222 * 2)))), .int .i64 13] rfl (by (try simp only [List.map_toArray, List.map_cons, List.map_nil]); first | done | rfl | (simp only [List.length_drop, List.length_take]; rfl)) ?_; (with_reducible refine (postbagref02_signed.calls (IntKind.u64.wrap ((IntKind.u64.wrap ((IntKind.u64.wrap ((IntKind.u64.wrap (t219 * 4096)) + (IntKind.u64.wrap (t220 * 2048)))) + (IntKind.u64.wrap (t221 * 32)))) + (IntKind.u64.wrap (t222 * 2)))) 13 t223 _ A20.out).mono ?_); rintro e w' ⟨rfl, ⟨nd, rfl⟩⟩; refine ⟨_, rfl, ?_⟩))
          go_ret
          exact ⟨by first | rfl | (simp; done) | (simp [*]; done), by repeat (first | exact Drawn0.refl _ | apply Drawn0.step)⟩
        · rw [if_neg c15] at H
          have c15b0 : (a1 == 4) = false := beq_eq_false_iff_ne.mpr c15
          have c15b1 : (a1 != 4) = true := bne_iff_ne.mpr c15
          by_cases c21 : a1 = 5
          · rw [if_pos c21] at H
            have c21b0 : (a1 == 5) = true := beq_iff_eq.mpr c21
            have c21b1 : (a1 != 5) = false := bne_eq_false_iff_eq.mpr c21
            clear c21
            replace H := Option.bind_eq_some_iff.mp H
            obtain ⟨t224, A220, H⟩ := H
            replace H : ((postbagref02_field.f a0 7 5).bind fun t225 => ((postbagref02_signed.f (IntKind.u64.wrap ((IntKind.u64.wrap (t224 * 32)) + t225)) 12).bind fun t226 => (some t226))) = some r := H
            have A22 := Aside0.mk A220
            clear A220
            replace H := Option.bind_eq_some_iff.mp H
            obtain ⟨t225, A230, H⟩ := H
            replace H : ((postbagref02_signed.f (IntKind.u64.wrap ((IntKind.u64.wrap (t224 * 32)) + t225)) 12).bind fun t226 => (some t226)) = some r := H
            have A23 := Aside0.mk A230
            clear A230
            replace H := Option.bind_eq_some_iff.mp H
            obtain ⟨t226, A240, H⟩ := H
            replace H : (some t226) = some r := H
            have A24 := Aside0.mk A240
            clear A240
            obtain rfl := Option.some.inj H
            go_enter Try.func57, Try.ntmps57
            go_wp2_with (first | ((with_reducible refine gate_callee (f := 58) rfl ?_); refine goesL_ (some 56) rfl rfl Try.func58 (by kernel_rfl) rfl #[.int .u32 a0, .int .i64 25, .int .i64 7] rfl (by (try simp only [List.map_toArray, List.map_cons, List.map_nil]); first | done | rfl | (simp only [List.length_drop, List.length_take]; rfl)) ?_; (with_reducible refine (postbagref02_field.calls a0 25 7 t224 _ A22.out).mono ?_); rintro e w' ⟨rfl, ⟨nd, rfl⟩⟩; refine ⟨_, rfl, ?_⟩) | ((with_reducible refine gate_callee (f := 58) rfl ?_); refine goesL_ (some 59) rfl rfl Try.func58 (by kernel_rfl) rfl #[.int .u32 a0, .int .i64 7, .int .i64 5] rfl (by (try simp only [List.map_toArray, List.map_cons, List.map_nil]); first | done | rfl | (simp only [List.length_drop, List.length_take]; rfl)) ?_; (with_reducible refine (postbagref02_field.calls a0 7 5 t225 _ A23.out).mono ?_); rintro e w' ⟨rfl, ⟨nd, rfl⟩⟩; refine ⟨_, rfl, ?_⟩) | ((with_reducible refine gate_callee (f := 62) rfl ?_); refine goesL_ (some 61) rfl rfl Try.func62 (by kernel_rfl) rfl #[.int .u64 (IntKind.u64.wrap ((IntKind.u64.wrap (t224 * 32)) + t225)), .int .i64 12] rfl (by (try simp only [List.map_toArray, List.map_cons, List.map_nil]); first | done | rfl | (simp only [List.length_drop, List.length_take]; rfl)) ?_; (with_reducible refine (postbagref02_signed.calls (IntKind.u64.wrap ((IntKind.u64.wrap (t224 * 32)) + t225)) 12 t226 _ A24.out).mono ?_); rintro e w' ⟨rfl, ⟨nd, rfl⟩⟩; refine ⟨_, rfl, ?_⟩))
            go_ret
            exact ⟨by first | rfl | (simp; done) | (simp [*]; done), by repeat (first | exact Drawn0.refl _ | apply Drawn0.step)⟩
          · rw [if_neg c21] at H
            have c21b0 : (a1 == 5) = false := beq_eq_false_iff_ne.mpr c21
            have c21b1 : (a1 != 5) = true := bne_iff_ne.mpr c21
            by_cases c25 : a1 = 6
            · rw [if_pos c25] at H
              have c25b0 : (a1 == 6) = true := beq_iff_eq.mpr c25
              have c25b1 : (a1 != 6) = false := bne_eq_false_iff_eq.mpr c25
              clear c25
              replace H := Option.bind_eq_some_iff.mp H
              obtain ⟨t227, A260, H⟩ := H
              replace H : (some (wrap64 (t227))) = some r := H
              have A26 := Aside0.mk A260
              clear A260
              obtain rfl := Option.some.inj H
              go_enter Try.func57, Try.ntmps57
              go_wp2_with (first | ((with_reducible refine gate_callee (f := 58) rfl ?_); refine goesL_ (some 65) rfl rfl Try.func58 (by kernel_rfl) rfl #[.int .u32 a0, .int .i64 20, .int .i64 6] rfl (by (try simp only [List.map_toArray, List.map_cons, List.map_nil]); first | done | rfl | (simp only [List.length_drop, List.length_take]; rfl)) ?_; (with_reducible refine (postbagref02_field.calls a0 20 6 t227 _ A26.out).mono ?_); rintro e w' ⟨rfl, ⟨nd, rfl⟩⟩; refine ⟨_, rfl, ?_⟩))
              go_ret
              exact ⟨by first | rfl | (simp; done) | (simp [*]; done), by repeat (first | exact Drawn0.refl _ | apply Drawn0.step)⟩
            · rw [if_neg c25] at H
              have c25b0 : (a1 == 6) = false := beq_eq_false_iff_ne.mpr c25
              have c25b1 : (a1 != 6) = true := bne_iff_ne.mpr c25
              by_cases c27 : a1 = 7
              · rw [if_pos c27] at H
                have c27b0 : (a1 == 7) = true := beq_iff_eq.mpr c27
                have c27b1 : (a1 != 7) = false := bne_eq_false_iff_eq.mpr c27
                clear c27
                replace H := Option.bind_eq_some_iff.mp H
                obtain ⟨t228, A280, H⟩ := H
                replace H : (some (wrap64 (t228))) = some r := H
                have A28 := Aside0.mk A280
                clear A280
                obtain rfl := Option.some.inj H
                go_enter Try.func57, Try.ntmps57
                go_wp2_with (first | ((with_reducible refine gate_callee (f := 58) rfl ?_); refine goesL_ (some 70) rfl rfl Try.func58 (by kernel_rfl) rfl #[.int .u32 a0, .int .i64 20, .int .i64 5] rfl (by (try simp only [List.map_toArray, List.map_cons, List.map_nil]); first | done | rfl | (simp only [List.length_drop, List.length_take]; rfl)) ?_; (with_reducible refine (postbagref02_field.calls a0 20 5 t228 _ A28.out).mono ?_); rintro e w' ⟨rfl, ⟨nd, rfl⟩⟩; refine ⟨_, rfl, ?_⟩))
                go_ret
                exact ⟨by first | rfl | (simp; done) | (simp [*]; done), by repeat (first | exact Drawn0.refl _ | apply Drawn0.step)⟩
              · rw [if_neg c27] at H
                have c27b0 : (a1 == 7) = false := beq_eq_false_iff_ne.mpr c27
                have c27b1 : (a1 != 7) = true := bne_iff_ne.mpr c27
                by_cases c29 : a1 = 9
                · rw [if_pos c29] at H
                  have c29b0 : (a1 == 9) = true := beq_iff_eq.mpr c29
                  have c29b1 : (a1 != 9) = false := bne_eq_false_iff_eq.mpr c29
                  clear c29
                  replace H := Option.bind_eq_some_iff.mp H
                  obtain ⟨t229, A300, H⟩ := H
                  replace H : (some (wrap64 (t229))) = some r := H
                  have A30 := Aside0.mk A300
                  clear A300
                  obtain rfl := Option.some.inj H
                  go_enter Try.func57, Try.ntmps57
                  go_wp2_with (first | ((with_reducible refine gate_callee (f := 58) rfl ?_); refine goesL_ (some 75) rfl rfl Try.func58 (by kernel_rfl) rfl #[.int .u32 a0, .int .i64 20, .int .i64 8] rfl (by (try simp only [List.map_toArray, List.map_cons, List.map_nil]); first | done | rfl | (simp only [List.length_drop, List.length_take]; rfl)) ?_; (with_reducible refine (postbagref02_field.calls a0 20 8 t229 _ A30.out).mono ?_); rintro e w' ⟨rfl, ⟨nd, rfl⟩⟩; refine ⟨_, rfl, ?_⟩))
                  go_ret
                  exact ⟨by first | rfl | (simp; done) | (simp [*]; done), by repeat (first | exact Drawn0.refl _ | apply Drawn0.step)⟩
                · rw [if_neg c29] at H
                  have c29b0 : (a1 == 9) = false := beq_eq_false_iff_ne.mpr c29
                  have c29b1 : (a1 != 9) = true := bne_iff_ne.mpr c29
                  obtain rfl := Option.some.inj H
                  go_enter Try.func57, Try.ntmps57
                  go_wp2
                  go_ret
                  exact ⟨by first | rfl | (simp; done) | (simp [*]; done), by repeat (first | exact Drawn0.refl _ | apply Drawn0.step)⟩
def postbagref02_value.f (a0 : Int) (a1 : Int) : Option (Int) := if 0 ≤ a0 ∧ a0 < 4294967296 then some (decImm a1 a0) else none
theorem postbagref02_value.spec (a0 a1 r : Int) (h : postbagref02_value.f a0 a1 = some r) : postbagref02_value0.f a0 a1 = some r := by
  unfold postbagref02_value.f at h
  split at h
  · rename_i hc
    rw [← h]; clear h
    have pt : ∀ (low n : Nat), 1 ≤ n → low + n ≤ 64 → postbagref02_field.f a0 low n = some (a0 / 2 ^ low % 2 ^ n) := by
      intro low n h1 h2
      unfold postbagref02_field.f; rw [if_pos ⟨by omega, by omega, by omega, by omega, by omega⟩]; simp
    have q1 := pt 12 20 (by omega) (by omega)
    have q2 := pt 31 1 (by omega) (by omega)
    have q3 := pt 12 8 (by omega) (by omega)
    have q4 := pt 20 1 (by omega) (by omega)
    have q5 := pt 21 10 (by omega) (by omega)
    have q6 := pt 20 12 (by omega) (by omega)
    have q7 := pt 7 1 (by omega) (by omega)
    have q8 := pt 25 6 (by omega) (by omega)
    have q9 := pt 8 4 (by omega) (by omega)
    have q10 := pt 25 7 (by omega) (by omega)
    have q11 := pt 7 5 (by omega) (by omega)
    have q12 := pt 20 6 (by omega) (by omega)
    have q13 := pt 20 5 (by omega) (by omega)
    have q14 := pt 20 8 (by omega) (by omega)
    simp only [Int.reducePow, Int.cast_ofNat_Int] at q1 q2 q3 q4 q5 q6 q7 q8 q9 q10 q11 q12 q13 q14
    have sg : ∀ x n : Int, 0 ≤ x → x < 4294967296 → postbagref02_signed.f x n = some (wrap64 (signOf x n)) := by
      intro x n h0 h1; unfold postbagref02_signed.f; rw [if_pos (by unfold U64; omega)]
    have uw : ∀ x : Int, 0 ≤ x → x < 4294967296 → IntKind.u64.wrap x = x := by intro x h0 h1; rw [u64w]; omega
    have ww : ∀ x : Int, 0 ≤ x → x < 4294967296 → wrap64 x = x := by intro x h0 h1; unfold wrap64; omega
    unfold postbagref02_value0.f
    by_cases h1 : a1 = 1
    · subst h1
      rw [if_pos rfl, q1]; simp only [Option.bind_some]
      rw [uw _ (by omega) (by omega), sg _ _ (by omega) (by omega)]; simp [decImm, widthOf, rawImm]
    by_cases h2 : a1 = 2
    · subst h2
      rw [if_neg (by omega), if_pos rfl, q2, q3, q4, q5]; simp only [Option.bind_some]
      rw [uw (a0 / 2147483648 % 2 * 1048576) (by omega) (by omega), uw (a0 / 4096 % 256 * 4096) (by omega) (by omega), uw (a0 / 1048576 % 2 * 2048) (by omega) (by omega), uw (a0 / 2097152 % 1024 * 2) (by omega) (by omega)]
      rw [uw (a0 / 2147483648 % 2 * 1048576 + a0 / 4096 % 256 * 4096) (by omega) (by omega), uw (a0 / 2147483648 % 2 * 1048576 + a0 / 4096 % 256 * 4096 + a0 / 1048576 % 2 * 2048) (by omega) (by omega), uw _ (by omega) (by omega), sg _ _ (by omega) (by omega)]; simp [decImm, widthOf, rawImm]
    by_cases h3 : a1 = 3
    · subst h3
      rw [if_neg (by omega), if_neg (by omega), if_pos rfl, q6]; simp only [Option.bind_some]
      rw [sg _ _ (by omega) (by omega)]; simp [decImm, widthOf, rawImm]
    by_cases h4 : a1 = 4
    · subst h4
      rw [if_neg (by omega), if_neg (by omega), if_neg (by omega), if_pos rfl, q2, q7, q8, q9]; simp only [Option.bind_some]
      rw [uw (a0 / 2147483648 % 2 * 4096) (by omega) (by omega), uw (a0 / 128 % 2 * 2048) (by omega) (by omega), uw (a0 / 33554432 % 64 * 32) (by omega) (by omega), uw (a0 / 256 % 16 * 2) (by omega) (by omega)]
      rw [uw (a0 / 2147483648 % 2 * 4096 + a0 / 128 % 2 * 2048) (by omega) (by omega), uw (a0 / 2147483648 % 2 * 4096 + a0 / 128 % 2 * 2048 + a0 / 33554432 % 64 * 32) (by omega) (by omega), uw _ (by omega) (by omega), sg _ _ (by omega) (by omega)]; simp [decImm, widthOf, rawImm]
    by_cases h5 : a1 = 5
    · subst h5
      rw [if_neg (by omega), if_neg (by omega), if_neg (by omega), if_neg (by omega), if_pos rfl, q10, q11]; simp only [Option.bind_some]
      rw [uw (a0 / 33554432 % 128 * 32) (by omega) (by omega), uw _ (by omega) (by omega), sg _ _ (by omega) (by omega)]; simp [decImm, widthOf, rawImm]
    by_cases h6 : a1 = 6
    · subst h6
      rw [if_neg (by omega), if_neg (by omega), if_neg (by omega), if_neg (by omega), if_neg (by omega), if_pos rfl, q12]; simp only [Option.bind_some]
      rw [ww _ (by omega) (by omega)]; simp [decImm, widthOf, rawImm]
    by_cases h7 : a1 = 7
    · subst h7
      rw [if_neg (by omega), if_neg (by omega), if_neg (by omega), if_neg (by omega), if_neg (by omega), if_neg (by omega), if_pos rfl, q13]; simp only [Option.bind_some]
      rw [ww _ (by omega) (by omega)]; simp [decImm, widthOf, rawImm]
    by_cases h9 : a1 = 9
    · subst h9
      rw [if_neg (by omega), if_neg (by omega), if_neg (by omega), if_neg (by omega), if_neg (by omega), if_neg (by omega), if_neg (by omega), if_pos rfl, q14]; simp only [Option.bind_some]
      rw [ww _ (by omega) (by omega)]; simp [decImm, widthOf, rawImm]
    rw [if_neg h1, if_neg h2, if_neg h3, if_neg h4, if_neg h5, if_neg h6, if_neg h7, if_neg h9]
    simp [decImm, widthOf, rawImm, h1, h2, h3, h4, h5, h6, h7, h9]
  · simp at h

theorem postbagref02_value.calls (a0 : Int) (a1 : Int) (r : Int) (w : World) (h : postbagref02_value.f a0 a1 = some r) :
    Calls Try.prog 57 #[.int .u32 a0, .int .i64 a1] w fun e w' => e = .returned (.int .i64 r) ∧ Drawn0 w w' := by
  have hk := postbagref02_value.spec a0 a1 r h
  exact postbagref02_value0.calls a0 a1 r w hk

end Go.Proofs.Yteidfegohdilbaa.PAll
