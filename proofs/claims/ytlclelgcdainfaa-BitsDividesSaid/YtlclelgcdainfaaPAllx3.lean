/- DERIVED. The contracts of the Go functions that one law reaches: each call returns what the plain function beside it says, under that theorem's own premises. Written by a program (hp.py) over the kit's printed words. -/
import Derived.Test.YtlclelgcdainfaaPAllx0
import Derived.Test.YtlclelgcdainfaaPAllx1
import Derived.Test.YtlclelgcdainfaaPAllx2
namespace Go.Proofs.Ytlclelgcdainfaa.PAll
open Go.RowKit Go.Proofs.YtlclelgcdainfaaW.PrintWords Go.Proofs.YtlclelgcdainfaaW.PrintLast Go.Proofs.YtlclelgcdainfaaW.PrintMore Go.Proofs.Ytlclelgcdainfaa.M
attribute [local go_sem] max2_int min2_int max_two min_two max_three min_three max_four min_four   -- for this text's walks alone
set_option linter.unusedVariables false
set_option linter.unusedSimpArgs false

/-! ### postbagref01_Fits0: function 17 -/
def postbagref01_Fits0.f (a0 : Int) (a1 : Int) : Option (Bool) := if a1 < 1 then (some false) else (if a1 > 63 then (some true) else ((postbagref01_Sign.f (IntKind.u64.wrap (a0)) a1).bind fun t129 => (some (t129 == (IntKind.u64.wrap (a0))))))
set_option maxHeartbeats 8000000 in
set_option maxRecDepth 100000 in
theorem postbagref01_Fits0.calls (a0 : Int) (a1 : Int) (r : Bool) (w : World) (h : postbagref01_Fits0.f a0 a1 = some r) :
    Calls Try.prog 17 #[.int .i64 a0, .int .i64 a1] w fun e w' => e = .returned (.bool r) ∧ Drawn0 w w' := by
  have H : (if a1 < 1 then (some false) else (if a1 > 63 then (some true) else ((postbagref01_Sign.f (IntKind.u64.wrap (a0)) a1).bind fun t129 => (some (t129 == (IntKind.u64.wrap (a0))))))) = some r := h
  clear h
  by_cases c3 : a1 < 1
  · rw [if_pos c3] at H
    have c3b0 : decide (a1 < 1) = true := decide_eq_true c3
    clear c3
    obtain rfl := Option.some.inj H
    go_enter Try.func17, Try.ntmps17
    go_wp2
    go_ret
    exact ⟨by first | rfl | (simp; done) | (simp [*]; done), by repeat (first | exact Drawn0.refl _ | apply Drawn0.step)⟩
  · rw [if_neg c3] at H
    have c3b0 : decide (a1 < 1) = false := decide_eq_false c3
    clear c3
    by_cases c4 : a1 > 63
    · rw [if_pos c4] at H
      have c4b0 : decide (63 < a1) = true := decide_eq_true c4
      clear c4
      obtain rfl := Option.some.inj H
      go_enter Try.func17, Try.ntmps17
      go_wp2
      go_ret
      exact ⟨by first | rfl | (simp; done) | (simp [*]; done), by repeat (first | exact Drawn0.refl _ | apply Drawn0.step)⟩
    · rw [if_neg c4] at H
      have c4b0 : decide (63 < a1) = false := decide_eq_false c4
      clear c4
      replace H := Option.bind_eq_some_iff.mp H
      obtain ⟨t129, A50, H⟩ := H
      replace H : (some (t129 == (IntKind.u64.wrap (a0)))) = some r := H
      have A5 := Aside0.mk A50
      clear A50
      obtain rfl := Option.some.inj H
      go_enter Try.func17, Try.ntmps17
      go_wp2_with (first | ((with_reducible refine gate_callee (f := 15) rfl ?_); refine goesL_ (some 12) rfl rfl Try.func15 (by kernel_rfl) rfl #[.int .u64 (IntKind.u64.wrap (a0)), .int .i64 a1] rfl (by (try simp only [List.map_toArray, List.map_cons, List.map_nil]); first | done | rfl | (simp only [List.length_drop, List.length_take]; rfl)) ?_; (with_reducible refine (postbagref01_Sign.calls (IntKind.u64.wrap (a0)) a1 t129 _ A5.out).mono ?_); rintro e w' ⟨rfl, ⟨nd, rfl⟩⟩; refine ⟨_, rfl, ?_⟩))
      go_ret
      exact ⟨by first | rfl | (simp; done) | (simp [*]; done), by repeat (first | exact Drawn0.refl _ | apply Drawn0.step)⟩
def postbagref01_Fits.f (a0 : Int) (a1 : Int) : Option (Bool) := if I64 a0 then some (fitsOf a0 a1) else none
theorem postbagref01_Fits.spec (a0 a1 : Int) (r : Bool) (h : postbagref01_Fits.f a0 a1 = some r) : postbagref01_Fits0.f a0 a1 = some r := by
  unfold postbagref01_Fits.f at h
  by_cases hu : I64 a0
  · rw [if_pos hu] at h
    obtain rfl := Option.some.inj h
    unfold postbagref01_Fits0.f
    by_cases h1 : a1 < 1
    · rw [if_pos h1, fitsOf, decide_eq_false (by omega)]
    · rw [if_neg h1]
      by_cases h2 : a1 > 63
      · rw [if_pos h2, fitsOf, decide_eq_true ⟨by omega, fun h => by omega⟩]
      · obtain ⟨n, rfl⟩ : ∃ n : Nat, a1 = n := ⟨a1.toNat, by omega⟩
        rw [if_neg h2, postbagref01_Sign.eq (U64.wrap _)]
        simp only [Option.bind_some]
        rw [fits_sign a0 hu n (by omega) (by omega)]
  · rw [if_neg hu] at h; exact absurd h (by simp)

theorem postbagref01_Fits.calls (a0 : Int) (a1 : Int) (r : Bool) (w : World) (h : postbagref01_Fits.f a0 a1 = some r) :
    Calls Try.prog 17 #[.int .i64 a0, .int .i64 a1] w fun e w' => e = .returned (.bool r) ∧ Drawn0 w w' := by
  have hk := postbagref01_Fits.spec a0 a1 r h
  exact postbagref01_Fits0.calls a0 a1 r w hk

/-! ### postbaglaw01_BitsSigns: function 5 -/
def postbaglaw01_BitsSigns.f (a0 : Int) (a1 : Int) : Option (Bool) := (bits_Sign.f a0 a1).bind fun t130 => ((postbagref01_Sign.f a0 a1).bind fun t131 => (if t130 = t131 then ((bits_Fits.f (wrap64 (a0)) a1).bind fun t132 => ((postbagref01_Fits.f (wrap64 (a0)) a1).bind fun t133 => (if (t132 == t133) = true then ((postbaglaw01_lives.f).bind fun t134 => (some t134)) else (some false)))) else (some false)))
set_option maxHeartbeats 8000000 in
set_option maxRecDepth 100000 in
theorem postbaglaw01_BitsSigns.calls (a0 : Int) (a1 : Int) (r : Bool) (w : World) (h : postbaglaw01_BitsSigns.f a0 a1 = some r) :
    Calls Try.prog 5 #[.int .u64 a0, .int .i64 a1] w fun e w' => e = .returned (.bool r) ∧ Below w.heap.size w w' := by
  have HB := Aside0.mk (Below.refl w.heap.size w)
  have H : ((bits_Sign.f a0 a1).bind fun t130 => ((postbagref01_Sign.f a0 a1).bind fun t131 => (if t130 = t131 then ((bits_Fits.f (wrap64 (a0)) a1).bind fun t132 => ((postbagref01_Fits.f (wrap64 (a0)) a1).bind fun t133 => (if (t132 == t133) = true then ((postbaglaw01_lives.f).bind fun t134 => (some t134)) else (some false)))) else (some false)))) = some r := h
  clear h
  replace H := Option.bind_eq_some_iff.mp H
  obtain ⟨t130, A30, H⟩ := H
  replace H : ((postbagref01_Sign.f a0 a1).bind fun t131 => (if t130 = t131 then ((bits_Fits.f (wrap64 (a0)) a1).bind fun t132 => ((postbagref01_Fits.f (wrap64 (a0)) a1).bind fun t133 => (if (t132 == t133) = true then ((postbaglaw01_lives.f).bind fun t134 => (some t134)) else (some false)))) else (some false))) = some r := H
  have A3 := Aside0.mk A30
  clear A30
  replace H := Option.bind_eq_some_iff.mp H
  obtain ⟨t131, A40, H⟩ := H
  replace H : (if t130 = t131 then ((bits_Fits.f (wrap64 (a0)) a1).bind fun t132 => ((postbagref01_Fits.f (wrap64 (a0)) a1).bind fun t133 => (if (t132 == t133) = true then ((postbaglaw01_lives.f).bind fun t134 => (some t134)) else (some false)))) else (some false)) = some r := H
  have A4 := Aside0.mk A40
  clear A40
  by_cases c5 : t130 = t131
  · rw [if_pos c5] at H
    have c5b0 : (t130 == t131) = true := beq_iff_eq.mpr c5
    have c5b1 : (t130 != t131) = false := bne_eq_false_iff_eq.mpr c5
    clear c5
    replace H := Option.bind_eq_some_iff.mp H
    obtain ⟨t132, A60, H⟩ := H
    replace H : ((postbagref01_Fits.f (wrap64 (a0)) a1).bind fun t133 => (if (t132 == t133) = true then ((postbaglaw01_lives.f).bind fun t134 => (some t134)) else (some false))) = some r := H
    have A6 := Aside0.mk A60
    clear A60
    replace H := Option.bind_eq_some_iff.mp H
    obtain ⟨t133, A70, H⟩ := H
    replace H : (if (t132 == t133) = true then ((postbaglaw01_lives.f).bind fun t134 => (some t134)) else (some false)) = some r := H
    have A7 := Aside0.mk A70
    clear A70
    by_cases c8 : (t132 == t133) = true
    · rw [if_pos c8] at H
      have c8b0 : (t132 == t133) = true := c8
      (try (have c8b1 : decide (t132 = t133) = true := by simpa using c8))
      (try (have c8b2 : (t132 == t133) = true := by simpa using c8))
      clear c8
      replace H := Option.bind_eq_some_iff.mp H
      obtain ⟨t134, A90, H⟩ := H
      replace H : (some t134) = some r := H
      have A9 := Aside0.mk A90
      clear A90
      obtain rfl := Option.some.inj H
      go_enter Try.func5, Try.ntmps5
      go_wp2_with (first | ((with_reducible refine gate_callee (f := 14) rfl ?_); refine goesL_ (some 7) rfl rfl Try.func14 (by kernel_rfl) rfl #[.int .u64 a0, .int .i64 a1] rfl (by (try simp only [List.map_toArray, List.map_cons, List.map_nil]); first | done | rfl | (simp only [List.length_drop, List.length_take]; rfl)) ?_; (with_reducible refine (bits_Sign.calls a0 a1 t130 _ A3.out).mono ?_); rintro e w' ⟨rfl, ⟨nd, rfl⟩⟩; refine ⟨_, rfl, ?_⟩) | ((with_reducible refine gate_callee (f := 15) rfl ?_); refine goesL_ (some 10) rfl rfl Try.func15 (by kernel_rfl) rfl #[.int .u64 a0, .int .i64 a1] rfl (by (try simp only [List.map_toArray, List.map_cons, List.map_nil]); first | done | rfl | (simp only [List.length_drop, List.length_take]; rfl)) ?_; (with_reducible refine (postbagref01_Sign.calls a0 a1 t131 _ A4.out).mono ?_); rintro e w' ⟨rfl, ⟨nd, rfl⟩⟩; refine ⟨_, rfl, ?_⟩) | (go_at_call 16; (with_reducible refine (bits_Fits.calls (wrap64 (a0)) a1 t132 _ A6.out).mono ?_); rintro e w' ⟨rfl, ⟨nd, rfl⟩⟩) | (go_at_call 17; (with_reducible refine (postbagref01_Fits.calls (wrap64 (a0)) a1 t133 _ A7.out).mono ?_); rintro e w' ⟨rfl, ⟨nd, rfl⟩⟩) | (go_at_call 13; (with_reducible refine (postbaglaw01_lives.calls  t134 _ A9.out).mono ?_); rintro e w10 ⟨rfl, hb⟩; have n0_ := Aside0.mk (below_step (by repeat (first | (with_reducible first | exact HB.out | apply below_alloc | apply pw_below_drewN | apply below_drew1) | exact HB.out)) hb); clear HB; have HB := n0_; clear n0_; (try clear hb); (try clear hb2); (try clear hk); (try clear hi)))
      go_ret
      exact ⟨by first | rfl | (simp [errW_none, errW_some] <;> rfl) | (simp [*, errW_none, errW_some] <;> rfl), by repeat (first | (with_reducible first | exact HB.out | apply below_alloc | apply pw_below_drewN | apply below_drew1) | exact HB.out)⟩
    · rw [if_neg c8] at H
      have c8b0 : (t132 == t133) = false := by simpa using c8
      (try (have c8b1 : decide (t132 = t133) = false := by simpa using c8))
      (try (have c8b2 : (t132 == t133) = false := by simpa using c8))
      (try (have c8b3 : ¬ (t132 = t133) := by simpa using c8))
      clear c8
      obtain rfl := Option.some.inj H
      go_enter Try.func5, Try.ntmps5
      go_wp2_with (first | ((with_reducible refine gate_callee (f := 14) rfl ?_); refine goesL_ (some 7) rfl rfl Try.func14 (by kernel_rfl) rfl #[.int .u64 a0, .int .i64 a1] rfl (by (try simp only [List.map_toArray, List.map_cons, List.map_nil]); first | done | rfl | (simp only [List.length_drop, List.length_take]; rfl)) ?_; (with_reducible refine (bits_Sign.calls a0 a1 t130 _ A3.out).mono ?_); rintro e w' ⟨rfl, ⟨nd, rfl⟩⟩; refine ⟨_, rfl, ?_⟩) | ((with_reducible refine gate_callee (f := 15) rfl ?_); refine goesL_ (some 10) rfl rfl Try.func15 (by kernel_rfl) rfl #[.int .u64 a0, .int .i64 a1] rfl (by (try simp only [List.map_toArray, List.map_cons, List.map_nil]); first | done | rfl | (simp only [List.length_drop, List.length_take]; rfl)) ?_; (with_reducible refine (postbagref01_Sign.calls a0 a1 t131 _ A4.out).mono ?_); rintro e w' ⟨rfl, ⟨nd, rfl⟩⟩; refine ⟨_, rfl, ?_⟩) | (go_at_call 16; (with_reducible refine (bits_Fits.calls (wrap64 (a0)) a1 t132 _ A6.out).mono ?_); rintro e w' ⟨rfl, ⟨nd, rfl⟩⟩) | (go_at_call 17; (with_reducible refine (postbagref01_Fits.calls (wrap64 (a0)) a1 t133 _ A7.out).mono ?_); rintro e w' ⟨rfl, ⟨nd, rfl⟩⟩))
      go_ret
      exact ⟨by first | rfl | (simp [errW_none, errW_some] <;> rfl) | (simp [*, errW_none, errW_some] <;> rfl), by repeat (first | (with_reducible first | exact HB.out | apply below_alloc | apply pw_below_drewN | apply below_drew1) | exact HB.out)⟩
  · rw [if_neg c5] at H
    have c5b0 : (t130 == t131) = false := beq_eq_false_iff_ne.mpr c5
    have c5b1 : (t130 != t131) = true := bne_iff_ne.mpr c5
    obtain rfl := Option.some.inj H
    go_enter Try.func5, Try.ntmps5
    go_wp2_with (first | ((with_reducible refine gate_callee (f := 14) rfl ?_); refine goesL_ (some 7) rfl rfl Try.func14 (by kernel_rfl) rfl #[.int .u64 a0, .int .i64 a1] rfl (by (try simp only [List.map_toArray, List.map_cons, List.map_nil]); first | done | rfl | (simp only [List.length_drop, List.length_take]; rfl)) ?_; (with_reducible refine (bits_Sign.calls a0 a1 t130 _ A3.out).mono ?_); rintro e w' ⟨rfl, ⟨nd, rfl⟩⟩; refine ⟨_, rfl, ?_⟩) | ((with_reducible refine gate_callee (f := 15) rfl ?_); refine goesL_ (some 10) rfl rfl Try.func15 (by kernel_rfl) rfl #[.int .u64 a0, .int .i64 a1] rfl (by (try simp only [List.map_toArray, List.map_cons, List.map_nil]); first | done | rfl | (simp only [List.length_drop, List.length_take]; rfl)) ?_; (with_reducible refine (postbagref01_Sign.calls a0 a1 t131 _ A4.out).mono ?_); rintro e w' ⟨rfl, ⟨nd, rfl⟩⟩; refine ⟨_, rfl, ?_⟩))
    go_ret
    exact ⟨by first | rfl | (simp [errW_none, errW_some] <;> rfl) | (simp [*, errW_none, errW_some] <;> rfl), by repeat (first | (with_reducible first | exact HB.out | apply below_alloc | apply pw_below_drewN | apply below_drew1) | exact HB.out)⟩

/-- THE ONE PURE STATEMENT of postbaglaw01_BitsSigns: yours. -/
def postbaglaw01_BitsSigns.Pure : Prop := ∀ (a0 : Int) (a1 : Int), (Lit.int .u64 a0).wf = true → (Lit.int .i64 a1).wf = true → postbaglaw01_BitsSigns.f a0 a1 = some true
theorem postbaglaw01_BitsSigns.walk (P : postbaglaw01_BitsSigns.Pure) (a0 : Int) (a1 : Int) (w : World) (w0 : (Lit.int .u64 a0).wf = true) (w1 : (Lit.int .i64 a1).wf = true) :
    Calls Try.prog 5 #[.int .u64 a0, .int .i64 a1] w fun e w' => e = .returned (.bool true) ∧ Below w.heap.size w w' := by
  have h := P a0 a1 w0 w1
  refine (postbaglaw01_BitsSigns.calls a0 a1 true w h).mono ?_
  rintro e w' ⟨rfl, hd⟩
  exact ⟨rfl, hd⟩

/-! ### postbaglaw01_BitsSigned: function 6 -/
def postbaglaw01_BitsSigned.f (a0 : Int) (a1 : Int) : Option (Bool) := (bits_Sign.f a0 (wrap64 (1 + (wrap64 (Int.tmod (IntKind.u64.wrap (a1)) 63))))).bind fun t135 => ((bits_Sign.f t135 (wrap64 (1 + (wrap64 (Int.tmod (IntKind.u64.wrap (a1)) 63))))).bind fun t136 => (if t136 = t135 then ((bits_Field.f t135 0 (wrap64 (1 + (wrap64 (Int.tmod (IntKind.u64.wrap (a1)) 63))))).bind fun t137 => ((bits_Field.f a0 0 (wrap64 (1 + (wrap64 (Int.tmod (IntKind.u64.wrap (a1)) 63))))).bind fun t138 => (if t137 = t138 then ((bits_Fits.f (wrap64 (t135)) (wrap64 (1 + (wrap64 (Int.tmod (IntKind.u64.wrap (a1)) 63))))).bind fun t139 => (if t139 = true then ((bits_Fits.f (wrap64 (a0)) (wrap64 (1 + (wrap64 (Int.tmod (IntKind.u64.wrap (a1)) 63))))).bind fun t140 => (if (t140 == (a0 == t135)) = true then ((bits_Fits.f (wrap64 (t135)) (wrap64 ((wrap64 (1 + (wrap64 (Int.tmod (IntKind.u64.wrap (a1)) 63)))) + 1))).bind fun t141 => (if t141 = true then ((postbaglaw01_lives.f).bind fun t142 => (some t142)) else (some false))) else (some false))) else (some false))) else (some false)))) else (some false)))
set_option maxHeartbeats 8000000 in
set_option maxRecDepth 100000 in
theorem postbaglaw01_BitsSigned.calls (a0 : Int) (a1 : Int) (r : Bool) (w : World) (h : postbaglaw01_BitsSigned.f a0 a1 = some r) :
    Calls Try.prog 6 #[.int .u64 a0, .int .i64 a1] w fun e w' => e = .returned (.bool r) ∧ Below w.heap.size w w' := by
  have HB := Aside0.mk (Below.refl w.heap.size w)
  have H : ((bits_Sign.f a0 (wrap64 (1 + (wrap64 (Int.tmod (IntKind.u64.wrap (a1)) 63))))).bind fun t135 => ((bits_Sign.f t135 (wrap64 (1 + (wrap64 (Int.tmod (IntKind.u64.wrap (a1)) 63))))).bind fun t136 => (if t136 = t135 then ((bits_Field.f t135 0 (wrap64 (1 + (wrap64 (Int.tmod (IntKind.u64.wrap (a1)) 63))))).bind fun t137 => ((bits_Field.f a0 0 (wrap64 (1 + (wrap64 (Int.tmod (IntKind.u64.wrap (a1)) 63))))).bind fun t138 => (if t137 = t138 then ((bits_Fits.f (wrap64 (t135)) (wrap64 (1 + (wrap64 (Int.tmod (IntKind.u64.wrap (a1)) 63))))).bind fun t139 => (if t139 = true then ((bits_Fits.f (wrap64 (a0)) (wrap64 (1 + (wrap64 (Int.tmod (IntKind.u64.wrap (a1)) 63))))).bind fun t140 => (if (t140 == (a0 == t135)) = true then ((bits_Fits.f (wrap64 (t135)) (wrap64 ((wrap64 (1 + (wrap64 (Int.tmod (IntKind.u64.wrap (a1)) 63)))) + 1))).bind fun t141 => (if t141 = true then ((postbaglaw01_lives.f).bind fun t142 => (some t142)) else (some false))) else (some false))) else (some false))) else (some false)))) else (some false)))) = some r := h
  clear h
  replace H := Option.bind_eq_some_iff.mp H
  obtain ⟨t135, A30, H⟩ := H
  replace H : ((bits_Sign.f t135 (wrap64 (1 + (wrap64 (Int.tmod (IntKind.u64.wrap (a1)) 63))))).bind fun t136 => (if t136 = t135 then ((bits_Field.f t135 0 (wrap64 (1 + (wrap64 (Int.tmod (IntKind.u64.wrap (a1)) 63))))).bind fun t137 => ((bits_Field.f a0 0 (wrap64 (1 + (wrap64 (Int.tmod (IntKind.u64.wrap (a1)) 63))))).bind fun t138 => (if t137 = t138 then ((bits_Fits.f (wrap64 (t135)) (wrap64 (1 + (wrap64 (Int.tmod (IntKind.u64.wrap (a1)) 63))))).bind fun t139 => (if t139 = true then ((bits_Fits.f (wrap64 (a0)) (wrap64 (1 + (wrap64 (Int.tmod (IntKind.u64.wrap (a1)) 63))))).bind fun t140 => (if (t140 == (a0 == t135)) = true then ((bits_Fits.f (wrap64 (t135)) (wrap64 ((wrap64 (1 + (wrap64 (Int.tmod (IntKind.u64.wrap (a1)) 63)))) + 1))).bind fun t141 => (if t141 = true then ((postbaglaw01_lives.f).bind fun t142 => (some t142)) else (some false))) else (some false))) else (some false))) else (some false)))) else (some false))) = some r := H
  have A3 := Aside0.mk A30
  clear A30
  replace H := Option.bind_eq_some_iff.mp H
  obtain ⟨t136, A40, H⟩ := H
  replace H : (if t136 = t135 then ((bits_Field.f t135 0 (wrap64 (1 + (wrap64 (Int.tmod (IntKind.u64.wrap (a1)) 63))))).bind fun t137 => ((bits_Field.f a0 0 (wrap64 (1 + (wrap64 (Int.tmod (IntKind.u64.wrap (a1)) 63))))).bind fun t138 => (if t137 = t138 then ((bits_Fits.f (wrap64 (t135)) (wrap64 (1 + (wrap64 (Int.tmod (IntKind.u64.wrap (a1)) 63))))).bind fun t139 => (if t139 = true then ((bits_Fits.f (wrap64 (a0)) (wrap64 (1 + (wrap64 (Int.tmod (IntKind.u64.wrap (a1)) 63))))).bind fun t140 => (if (t140 == (a0 == t135)) = true then ((bits_Fits.f (wrap64 (t135)) (wrap64 ((wrap64 (1 + (wrap64 (Int.tmod (IntKind.u64.wrap (a1)) 63)))) + 1))).bind fun t141 => (if t141 = true then ((postbaglaw01_lives.f).bind fun t142 => (some t142)) else (some false))) else (some false))) else (some false))) else (some false)))) else (some false)) = some r := H
  have A4 := Aside0.mk A40
  clear A40
  by_cases c5 : t136 = t135
  · rw [if_pos c5] at H
    have c5b0 : (t136 == t135) = true := beq_iff_eq.mpr c5
    have c5b1 : (t136 != t135) = false := bne_eq_false_iff_eq.mpr c5
    clear c5
    replace H := Option.bind_eq_some_iff.mp H
    obtain ⟨t137, A60, H⟩ := H
    replace H : ((bits_Field.f a0 0 (wrap64 (1 + (wrap64 (Int.tmod (IntKind.u64.wrap (a1)) 63))))).bind fun t138 => (if t137 = t138 then ((bits_Fits.f (wrap64 (t135)) (wrap64 (1 + (wrap64 (Int.tmod (IntKind.u64.wrap (a1)) 63))))).bind fun t139 => (if t139 = true then ((bits_Fits.f (wrap64 (a0)) (wrap64 (1 + (wrap64 (Int.tmod (IntKind.u64.wrap (a1)) 63))))).bind fun t140 => (if (t140 == (a0 == t135)) = true then ((bits_Fits.f (wrap64 (t135)) (wrap64 ((wrap64 (1 + (wrap64 (Int.tmod (IntKind.u64.wrap (a1)) 63)))) + 1))).bind fun t141 => (if t141 = true then ((postbaglaw01_lives.f).bind fun t142 => (some t142)) else (some false))) else (some false))) else (some false))) else (some false))) = some r := H
    have A6 := Aside0.mk A60
    clear A60
    replace H := Option.bind_eq_some_iff.mp H
    obtain ⟨t138, A70, H⟩ := H
    replace H : (if t137 = t138 then ((bits_Fits.f (wrap64 (t135)) (wrap64 (1 + (wrap64 (Int.tmod (IntKind.u64.wrap (a1)) 63))))).bind fun t139 => (if t139 = true then ((bits_Fits.f (wrap64 (a0)) (wrap64 (1 + (wrap64 (Int.tmod (IntKind.u64.wrap (a1)) 63))))).bind fun t140 => (if (t140 == (a0 == t135)) = true then ((bits_Fits.f (wrap64 (t135)) (wrap64 ((wrap64 (1 + (wrap64 (Int.tmod (IntKind.u64.wrap (a1)) 63)))) + 1))).bind fun t141 => (if t141 = true then ((postbaglaw01_lives.f).bind fun t142 => (some t142)) else (some false))) else (some false))) else (some false))) else (some false)) = some r := H
    have A7 := Aside0.mk A70
    clear A70
    by_cases c8 : t137 = t138
    · rw [if_pos c8] at H
      have c8b0 : (t137 == t138) = true := beq_iff_eq.mpr c8
      have c8b1 : (t137 != t138) = false := bne_eq_false_iff_eq.mpr c8
      clear c8
      replace H := Option.bind_eq_some_iff.mp H
      obtain ⟨t139, A90, H⟩ := H
      replace H : (if t139 = true then ((bits_Fits.f (wrap64 (a0)) (wrap64 (1 + (wrap64 (Int.tmod (IntKind.u64.wrap (a1)) 63))))).bind fun t140 => (if (t140 == (a0 == t135)) = true then ((bits_Fits.f (wrap64 (t135)) (wrap64 ((wrap64 (1 + (wrap64 (Int.tmod (IntKind.u64.wrap (a1)) 63)))) + 1))).bind fun t141 => (if t141 = true then ((postbaglaw01_lives.f).bind fun t142 => (some t142)) else (some false))) else (some false))) else (some false)) = some r := H
      have A9 := Aside0.mk A90
      clear A90
      by_cases c10 : t139 = true
      · subst c10
        have H1 : ((bits_Fits.f (wrap64 (a0)) (wrap64 (1 + (wrap64 (Int.tmod (IntKind.u64.wrap (a1)) 63))))).bind fun t140 => (if (t140 == (a0 == t135)) = true then ((bits_Fits.f (wrap64 (t135)) (wrap64 ((wrap64 (1 + (wrap64 (Int.tmod (IntKind.u64.wrap (a1)) 63)))) + 1))).bind fun t141 => (if t141 = true then ((postbaglaw01_lives.f).bind fun t142 => (some t142)) else (some false))) else (some false))) = some r := by rw [if_pos rfl] at H; exact H
        clear H
        have H := H1
        clear H1
        replace H := Option.bind_eq_some_iff.mp H
        obtain ⟨t140, A110, H⟩ := H
        replace H : (if (t140 == (a0 == t135)) = true then ((bits_Fits.f (wrap64 (t135)) (wrap64 ((wrap64 (1 + (wrap64 (Int.tmod (IntKind.u64.wrap (a1)) 63)))) + 1))).bind fun t141 => (if t141 = true then ((postbaglaw01_lives.f).bind fun t142 => (some t142)) else (some false))) else (some false)) = some r := H
        have A11 := Aside0.mk A110
        clear A110
        by_cases c12 : (t140 == (a0 == t135)) = true
        · rw [if_pos c12] at H
          have c12b0 : (t140 == (a0 == t135)) = true := c12
          (try (have c12b1 : decide (t140 = (a0 == t135)) = true := by simpa using c12))
          (try (have c12b2 : (t140 == (a0 == t135)) = true := by simpa using c12))
          clear c12
          replace H := Option.bind_eq_some_iff.mp H
          obtain ⟨t141, A130, H⟩ := H
          replace H : (if t141 = true then ((postbaglaw01_lives.f).bind fun t142 => (some t142)) else (some false)) = some r := H
          have A13 := Aside0.mk A130
          clear A130
          by_cases c14 : t141 = true
          · subst c14
            have H1 : ((postbaglaw01_lives.f).bind fun t142 => (some t142)) = some r := by rw [if_pos rfl] at H; exact H
            clear H
            have H := H1
            clear H1
            replace H := Option.bind_eq_some_iff.mp H
            obtain ⟨t142, A150, H⟩ := H
            replace H : (some t142) = some r := H
            have A15 := Aside0.mk A150
            clear A150
            obtain rfl := Option.some.inj H
            go_enter Try.func6, Try.ntmps6
            go_wp2_with (first | ((with_reducible refine gate_callee (f := 14) rfl ?_); refine goesL_ (some 14) rfl rfl Try.func14 (by kernel_rfl) rfl #[.int .u64 a0, .int .i64 (wrap64 (1 + (wrap64 (Int.tmod (IntKind.u64.wrap (a1)) 63))))] rfl (by (try simp only [List.map_toArray, List.map_cons, List.map_nil]); first | done | rfl | (simp only [List.length_drop, List.length_take]; rfl)) ?_; (with_reducible refine (bits_Sign.calls a0 (wrap64 (1 + (wrap64 (Int.tmod (IntKind.u64.wrap (a1)) 63)))) t135 _ A3.out).mono ?_); rintro e w' ⟨rfl, ⟨nd, rfl⟩⟩; refine ⟨_, rfl, ?_⟩) | ((with_reducible refine gate_callee (f := 14) rfl ?_); refine goesL_ (some 17) rfl rfl Try.func14 (by kernel_rfl) rfl #[.int .u64 t135, .int .i64 (wrap64 (1 + (wrap64 (Int.tmod (IntKind.u64.wrap (a1)) 63))))] rfl (by (try simp only [List.map_toArray, List.map_cons, List.map_nil]); first | done | rfl | (simp only [List.length_drop, List.length_take]; rfl)) ?_; (with_reducible refine (bits_Sign.calls t135 (wrap64 (1 + (wrap64 (Int.tmod (IntKind.u64.wrap (a1)) 63)))) t136 _ A4.out).mono ?_); rintro e w' ⟨rfl, ⟨nd, rfl⟩⟩; refine ⟨_, rfl, ?_⟩) | (go_at_call 18; (with_reducible refine (bits_Field.calls t135 0 (wrap64 (1 + (wrap64 (Int.tmod (IntKind.u64.wrap (a1)) 63)))) t137 _ A6.out).mono ?_); rintro e w' ⟨rfl, ⟨nd, rfl⟩⟩) | (go_at_call 18; (with_reducible refine (bits_Field.calls a0 0 (wrap64 (1 + (wrap64 (Int.tmod (IntKind.u64.wrap (a1)) 63)))) t138 _ A7.out).mono ?_); rintro e w' ⟨rfl, ⟨nd, rfl⟩⟩) | (go_at_call 16; (with_reducible refine (bits_Fits.calls (wrap64 (t135)) (wrap64 (1 + (wrap64 (Int.tmod (IntKind.u64.wrap (a1)) 63)))) true _ A9.out).mono ?_); rintro e w' ⟨rfl, ⟨nd, rfl⟩⟩) | (go_at_call 16; (with_reducible refine (bits_Fits.calls (wrap64 (a0)) (wrap64 (1 + (wrap64 (Int.tmod (IntKind.u64.wrap (a1)) 63)))) t140 _ A11.out).mono ?_); rintro e w' ⟨rfl, ⟨nd, rfl⟩⟩) | (go_at_call 16; (with_reducible refine (bits_Fits.calls (wrap64 (t135)) (wrap64 ((wrap64 (1 + (wrap64 (Int.tmod (IntKind.u64.wrap (a1)) 63)))) + 1)) true _ A13.out).mono ?_); rintro e w' ⟨rfl, ⟨nd, rfl⟩⟩) | (go_at_call 13; (with_reducible refine (postbaglaw01_lives.calls  t142 _ A15.out).mono ?_); rintro e w16 ⟨rfl, hb⟩; have n0_ := Aside0.mk (below_step (by repeat (first | (with_reducible first | exact HB.out | apply below_alloc | apply pw_below_drewN | apply below_drew1) | exact HB.out)) hb); clear HB; have HB := n0_; clear n0_; (try clear hb); (try clear hb2); (try clear hk); (try clear hi)))
            go_ret
            exact ⟨by first | rfl | (simp [errW_none, errW_some] <;> rfl) | (simp [*, errW_none, errW_some] <;> rfl), by repeat (first | (with_reducible first | exact HB.out | apply below_alloc | apply pw_below_drewN | apply below_drew1) | exact HB.out)⟩
          · replace c14 := Bool.eq_false_iff.mpr c14
            subst c14
            have H1 : (some false) = some r := by rw [if_neg (show ¬ (false = true) by decide)] at H; exact H
            clear H
            have H := H1
            clear H1
            obtain rfl := Option.some.inj H
            go_enter Try.func6, Try.ntmps6
            go_wp2_with (first | ((with_reducible refine gate_callee (f := 14) rfl ?_); refine goesL_ (some 14) rfl rfl Try.func14 (by kernel_rfl) rfl #[.int .u64 a0, .int .i64 (wrap64 (1 + (wrap64 (Int.tmod (IntKind.u64.wrap (a1)) 63))))] rfl (by (try simp only [List.map_toArray, List.map_cons, List.map_nil]); first | done | rfl | (simp only [List.length_drop, List.length_take]; rfl)) ?_; (with_reducible refine (bits_Sign.calls a0 (wrap64 (1 + (wrap64 (Int.tmod (IntKind.u64.wrap (a1)) 63)))) t135 _ A3.out).mono ?_); rintro e w' ⟨rfl, ⟨nd, rfl⟩⟩; refine ⟨_, rfl, ?_⟩) | ((with_reducible refine gate_callee (f := 14) rfl ?_); refine goesL_ (some 17) rfl rfl Try.func14 (by kernel_rfl) rfl #[.int .u64 t135, .int .i64 (wrap64 (1 + (wrap64 (Int.tmod (IntKind.u64.wrap (a1)) 63))))] rfl (by (try simp only [List.map_toArray, List.map_cons, List.map_nil]); first | done | rfl | (simp only [List.length_drop, List.length_take]; rfl)) ?_; (with_reducible refine (bits_Sign.calls t135 (wrap64 (1 + (wrap64 (Int.tmod (IntKind.u64.wrap (a1)) 63)))) t136 _ A4.out).mono ?_); rintro e w' ⟨rfl, ⟨nd, rfl⟩⟩; refine ⟨_, rfl, ?_⟩) | (go_at_call 18; (with_reducible refine (bits_Field.calls t135 0 (wrap64 (1 + (wrap64 (Int.tmod (IntKind.u64.wrap (a1)) 63)))) t137 _ A6.out).mono ?_); rintro e w' ⟨rfl, ⟨nd, rfl⟩⟩) | (go_at_call 18; (with_reducible refine (bits_Field.calls a0 0 (wrap64 (1 + (wrap64 (Int.tmod (IntKind.u64.wrap (a1)) 63)))) t138 _ A7.out).mono ?_); rintro e w' ⟨rfl, ⟨nd, rfl⟩⟩) | (go_at_call 16; (with_reducible refine (bits_Fits.calls (wrap64 (t135)) (wrap64 (1 + (wrap64 (Int.tmod (IntKind.u64.wrap (a1)) 63)))) true _ A9.out).mono ?_); rintro e w' ⟨rfl, ⟨nd, rfl⟩⟩) | (go_at_call 16; (with_reducible refine (bits_Fits.calls (wrap64 (a0)) (wrap64 (1 + (wrap64 (Int.tmod (IntKind.u64.wrap (a1)) 63)))) t140 _ A11.out).mono ?_); rintro e w' ⟨rfl, ⟨nd, rfl⟩⟩) | (go_at_call 16; (with_reducible refine (bits_Fits.calls (wrap64 (t135)) (wrap64 ((wrap64 (1 + (wrap64 (Int.tmod (IntKind.u64.wrap (a1)) 63)))) + 1)) false _ A13.out).mono ?_); rintro e w' ⟨rfl, ⟨nd, rfl⟩⟩))
            go_ret
            exact ⟨by first | rfl | (simp [errW_none, errW_some] <;> rfl) | (simp [*, errW_none, errW_some] <;> rfl), by repeat (first | (with_reducible first | exact HB.out | apply below_alloc | apply pw_below_drewN | apply below_drew1) | exact HB.out)⟩
        · rw [if_neg c12] at H
          have c12b0 : (t140 == (a0 == t135)) = false := by simpa using c12
          (try (have c12b1 : decide (t140 = (a0 == t135)) = false := by simpa using c12))
          (try (have c12b2 : (t140 == (a0 == t135)) = false := by simpa using c12))
          (try (have c12b3 : ¬ (t140 = (a0 == t135)) := by simpa using c12))
          clear c12
          obtain rfl := Option.some.inj H
          go_enter Try.func6, Try.ntmps6
          go_wp2_with (first | ((with_reducible refine gate_callee (f := 14) rfl ?_); refine goesL_ (some 14) rfl rfl Try.func14 (by kernel_rfl) rfl #[.int .u64 a0, .int .i64 (wrap64 (1 + (wrap64 (Int.tmod (IntKind.u64.wrap (a1)) 63))))] rfl (by (try simp only [List.map_toArray, List.map_cons, List.map_nil]); first | done | rfl | (simp only [List.length_drop, List.length_take]; rfl)) ?_; (with_reducible refine (bits_Sign.calls a0 (wrap64 (1 + (wrap64 (Int.tmod (IntKind.u64.wrap (a1)) 63)))) t135 _ A3.out).mono ?_); rintro e w' ⟨rfl, ⟨nd, rfl⟩⟩; refine ⟨_, rfl, ?_⟩) | ((with_reducible refine gate_callee (f := 14) rfl ?_); refine goesL_ (some 17) rfl rfl Try.func14 (by kernel_rfl) rfl #[.int .u64 t135, .int .i64 (wrap64 (1 + (wrap64 (Int.tmod (IntKind.u64.wrap (a1)) 63))))] rfl (by (try simp only [List.map_toArray, List.map_cons, List.map_nil]); first | done | rfl | (simp only [List.length_drop, List.length_take]; rfl)) ?_; (with_reducible refine (bits_Sign.calls t135 (wrap64 (1 + (wrap64 (Int.tmod (IntKind.u64.wrap (a1)) 63)))) t136 _ A4.out).mono ?_); rintro e w' ⟨rfl, ⟨nd, rfl⟩⟩; refine ⟨_, rfl, ?_⟩) | (go_at_call 18; (with_reducible refine (bits_Field.calls t135 0 (wrap64 (1 + (wrap64 (Int.tmod (IntKind.u64.wrap (a1)) 63)))) t137 _ A6.out).mono ?_); rintro e w' ⟨rfl, ⟨nd, rfl⟩⟩) | (go_at_call 18; (with_reducible refine (bits_Field.calls a0 0 (wrap64 (1 + (wrap64 (Int.tmod (IntKind.u64.wrap (a1)) 63)))) t138 _ A7.out).mono ?_); rintro e w' ⟨rfl, ⟨nd, rfl⟩⟩) | (go_at_call 16; (with_reducible refine (bits_Fits.calls (wrap64 (t135)) (wrap64 (1 + (wrap64 (Int.tmod (IntKind.u64.wrap (a1)) 63)))) true _ A9.out).mono ?_); rintro e w' ⟨rfl, ⟨nd, rfl⟩⟩) | (go_at_call 16; (with_reducible refine (bits_Fits.calls (wrap64 (a0)) (wrap64 (1 + (wrap64 (Int.tmod (IntKind.u64.wrap (a1)) 63)))) t140 _ A11.out).mono ?_); rintro e w' ⟨rfl, ⟨nd, rfl⟩⟩))
          go_ret
          exact ⟨by first | rfl | (simp [errW_none, errW_some] <;> rfl) | (simp [*, errW_none, errW_some] <;> rfl), by repeat (first | (with_reducible first | exact HB.out | apply below_alloc | apply pw_below_drewN | apply below_drew1) | exact HB.out)⟩
      · replace c10 := Bool.eq_false_iff.mpr c10
        subst c10
        have H1 : (some false) = some r := by rw [if_neg (show ¬ (false = true) by decide)] at H; exact H
        clear H
        have H := H1
        clear H1
        obtain rfl := Option.some.inj H
        go_enter Try.func6, Try.ntmps6
        go_wp2_with (first | ((with_reducible refine gate_callee (f := 14) rfl ?_); refine goesL_ (some 14) rfl rfl Try.func14 (by kernel_rfl) rfl #[.int .u64 a0, .int .i64 (wrap64 (1 + (wrap64 (Int.tmod (IntKind.u64.wrap (a1)) 63))))] rfl (by (try simp only [List.map_toArray, List.map_cons, List.map_nil]); first | done | rfl | (simp only [List.length_drop, List.length_take]; rfl)) ?_; (with_reducible refine (bits_Sign.calls a0 (wrap64 (1 + (wrap64 (Int.tmod (IntKind.u64.wrap (a1)) 63)))) t135 _ A3.out).mono ?_); rintro e w' ⟨rfl, ⟨nd, rfl⟩⟩; refine ⟨_, rfl, ?_⟩) | ((with_reducible refine gate_callee (f := 14) rfl ?_); refine goesL_ (some 17) rfl rfl Try.func14 (by kernel_rfl) rfl #[.int .u64 t135, .int .i64 (wrap64 (1 + (wrap64 (Int.tmod (IntKind.u64.wrap (a1)) 63))))] rfl (by (try simp only [List.map_toArray, List.map_cons, List.map_nil]); first | done | rfl | (simp only [List.length_drop, List.length_take]; rfl)) ?_; (with_reducible refine (bits_Sign.calls t135 (wrap64 (1 + (wrap64 (Int.tmod (IntKind.u64.wrap (a1)) 63)))) t136 _ A4.out).mono ?_); rintro e w' ⟨rfl, ⟨nd, rfl⟩⟩; refine ⟨_, rfl, ?_⟩) | (go_at_call 18; (with_reducible refine (bits_Field.calls t135 0 (wrap64 (1 + (wrap64 (Int.tmod (IntKind.u64.wrap (a1)) 63)))) t137 _ A6.out).mono ?_); rintro e w' ⟨rfl, ⟨nd, rfl⟩⟩) | (go_at_call 18; (with_reducible refine (bits_Field.calls a0 0 (wrap64 (1 + (wrap64 (Int.tmod (IntKind.u64.wrap (a1)) 63)))) t138 _ A7.out).mono ?_); rintro e w' ⟨rfl, ⟨nd, rfl⟩⟩) | (go_at_call 16; (with_reducible refine (bits_Fits.calls (wrap64 (t135)) (wrap64 (1 + (wrap64 (Int.tmod (IntKind.u64.wrap (a1)) 63)))) false _ A9.out).mono ?_); rintro e w' ⟨rfl, ⟨nd, rfl⟩⟩))
        go_ret
        exact ⟨by first | rfl | (simp [errW_none, errW_some] <;> rfl) | (simp [*, errW_none, errW_some] <;> rfl), by repeat (first | (with_reducible first | exact HB.out | apply below_alloc | apply pw_below_drewN | apply below_drew1) | exact HB.out)⟩
    · rw [if_neg c8] at H
      have c8b0 : (t137 == t138) = false := beq_eq_false_iff_ne.mpr c8
      have c8b1 : (t137 != t138) = true := bne_iff_ne.mpr c8
      obtain rfl := Option.some.inj H
      go_enter Try.func6, Try.ntmps6
      go_wp2_with (first | ((with_reducible refine gate_callee (f := 14) rfl ?_); refine goesL_ (some 14) rfl rfl Try.func14 (by kernel_rfl) rfl #[.int .u64 a0, .int .i64 (wrap64 (1 + (wrap64 (Int.tmod (IntKind.u64.wrap (a1)) 63))))] rfl (by (try simp only [List.map_toArray, List.map_cons, List.map_nil]); first | done | rfl | (simp only [List.length_drop, List.length_take]; rfl)) ?_; (with_reducible refine (bits_Sign.calls a0 (wrap64 (1 + (wrap64 (Int.tmod (IntKind.u64.wrap (a1)) 63)))) t135 _ A3.out).mono ?_); rintro e w' ⟨rfl, ⟨nd, rfl⟩⟩; refine ⟨_, rfl, ?_⟩) | ((with_reducible refine gate_callee (f := 14) rfl ?_); refine goesL_ (some 17) rfl rfl Try.func14 (by kernel_rfl) rfl #[.int .u64 t135, .int .i64 (wrap64 (1 + (wrap64 (Int.tmod (IntKind.u64.wrap (a1)) 63))))] rfl (by (try simp only [List.map_toArray, List.map_cons, List.map_nil]); first | done | rfl | (simp only [List.length_drop, List.length_take]; rfl)) ?_; (with_reducible refine (bits_Sign.calls t135 (wrap64 (1 + (wrap64 (Int.tmod (IntKind.u64.wrap (a1)) 63)))) t136 _ A4.out).mono ?_); rintro e w' ⟨rfl, ⟨nd, rfl⟩⟩; refine ⟨_, rfl, ?_⟩) | (go_at_call 18; (with_reducible refine (bits_Field.calls t135 0 (wrap64 (1 + (wrap64 (Int.tmod (IntKind.u64.wrap (a1)) 63)))) t137 _ A6.out).mono ?_); rintro e w' ⟨rfl, ⟨nd, rfl⟩⟩) | (go_at_call 18; (with_reducible refine (bits_Field.calls a0 0 (wrap64 (1 + (wrap64 (Int.tmod (IntKind.u64.wrap (a1)) 63)))) t138 _ A7.out).mono ?_); rintro e w' ⟨rfl, ⟨nd, rfl⟩⟩))
      go_ret
      exact ⟨by first | rfl | (simp [errW_none, errW_some] <;> rfl) | (simp [*, errW_none, errW_some] <;> rfl), by repeat (first | (with_reducible first | exact HB.out | apply below_alloc | apply pw_below_drewN | apply below_drew1) | exact HB.out)⟩
  · rw [if_neg c5] at H
    have c5b0 : (t136 == t135) = false := beq_eq_false_iff_ne.mpr c5
    have c5b1 : (t136 != t135) = true := bne_iff_ne.mpr c5
    obtain rfl := Option.some.inj H
    go_enter Try.func6, Try.ntmps6
    go_wp2_with (first | ((with_reducible refine gate_callee (f := 14) rfl ?_); refine goesL_ (some 14) rfl rfl Try.func14 (by kernel_rfl) rfl #[.int .u64 a0, .int .i64 (wrap64 (1 + (wrap64 (Int.tmod (IntKind.u64.wrap (a1)) 63))))] rfl (by (try simp only [List.map_toArray, List.map_cons, List.map_nil]); first | done | rfl | (simp only [List.length_drop, List.length_take]; rfl)) ?_; (with_reducible refine (bits_Sign.calls a0 (wrap64 (1 + (wrap64 (Int.tmod (IntKind.u64.wrap (a1)) 63)))) t135 _ A3.out).mono ?_); rintro e w' ⟨rfl, ⟨nd, rfl⟩⟩; refine ⟨_, rfl, ?_⟩) | ((with_reducible refine gate_callee (f := 14) rfl ?_); refine goesL_ (some 17) rfl rfl Try.func14 (by kernel_rfl) rfl #[.int .u64 t135, .int .i64 (wrap64 (1 + (wrap64 (Int.tmod (IntKind.u64.wrap (a1)) 63))))] rfl (by (try simp only [List.map_toArray, List.map_cons, List.map_nil]); first | done | rfl | (simp only [List.length_drop, List.length_take]; rfl)) ?_; (with_reducible refine (bits_Sign.calls t135 (wrap64 (1 + (wrap64 (Int.tmod (IntKind.u64.wrap (a1)) 63)))) t136 _ A4.out).mono ?_); rintro e w' ⟨rfl, ⟨nd, rfl⟩⟩; refine ⟨_, rfl, ?_⟩))
    go_ret
    exact ⟨by first | rfl | (simp [errW_none, errW_some] <;> rfl) | (simp [*, errW_none, errW_some] <;> rfl), by repeat (first | (with_reducible first | exact HB.out | apply below_alloc | apply pw_below_drewN | apply below_drew1) | exact HB.out)⟩

/-- THE ONE PURE STATEMENT of postbaglaw01_BitsSigned: yours. -/
def postbaglaw01_BitsSigned.Pure : Prop := ∀ (a0 : Int) (a1 : Int), (Lit.int .u64 a0).wf = true → (Lit.int .i64 a1).wf = true → postbaglaw01_BitsSigned.f a0 a1 = some true
theorem postbaglaw01_BitsSigned.walk (P : postbaglaw01_BitsSigned.Pure) (a0 : Int) (a1 : Int) (w : World) (w0 : (Lit.int .u64 a0).wf = true) (w1 : (Lit.int .i64 a1).wf = true) :
    Calls Try.prog 6 #[.int .u64 a0, .int .i64 a1] w fun e w' => e = .returned (.bool true) ∧ Below w.heap.size w w' := by
  have h := P a0 a1 w0 w1
  refine (postbaglaw01_BitsSigned.calls a0 a1 true w h).mono ?_
  rintro e w' ⟨rfl, hd⟩
  exact ⟨rfl, hd⟩

/-! ### postbagref01_Field0: function 19 -/
mutual
def postbagref01_Field0.j0 : Nat → Int → Int → Int → Bool → Option (Int)
  | 0, _, _, _, _ => none
  | k + 1, x0, x1, x2, x18 => if x18 = true then (some 0) else (postbagref01_Field0.l0 k x0 x1 x2 0 0)
def postbagref01_Field0.l0 : Nat → Int → Int → Int → Int → Int → Option (Int)
  | 0, _, _, _, _, _ => none
  | k + 1, x0, x1, x2, x7, x8 => if x8 < x2 then (postbagref01_Field0.j2 k x0 x1 x2 x7 x8 (decide (x8 < (wrap64 (64 - x1))))) else (postbagref01_Field0.j2 k x0 x1 x2 x7 x8 false)
def postbagref01_Field0.j2 : Nat → Int → Int → Int → Int → Int → Bool → Option (Int)
  | 0, _, _, _, _, _, _ => none
  | k + 1, x0, x1, x2, x7, x8, x27 => if x27 = true then ((postbagref01_Bit.f x0 (wrap64 (x1 + x8))).bind fun t143 => ((postbagref01_power.f x8).bind fun t144 => (postbagref01_Field0.l0 k x0 x1 x2 (IntKind.u64.wrap (x7 + (IntKind.u64.wrap (t143 * t144)))) (wrap64 (x8 + 1))))) else (some x7)
end
def postbagref01_Field0.f (k : Nat) (a0 : Int) (a1 : Int) (a2 : Int) : Option (Int) := if a1 < 0 then (postbagref01_Field0.j0 k a0 a1 a2 true) else (if a1 > 63 then (postbagref01_Field0.j0 k a0 a1 a2 true) else (postbagref01_Field0.j0 k a0 a1 a2 (decide (a2 < 1))))
theorem postbagref01_Field0.mono_l : ∀ k, (∀ y0 y1 y2 y3, LeO (postbagref01_Field0.j0 k y0 y1 y2 y3) (postbagref01_Field0.j0 (k + 1) y0 y1 y2 y3)) ∧ (∀ y0 y1 y2 y3 y4, LeO (postbagref01_Field0.l0 k y0 y1 y2 y3 y4) (postbagref01_Field0.l0 (k + 1) y0 y1 y2 y3 y4)) ∧ (∀ y0 y1 y2 y3 y4 y5, LeO (postbagref01_Field0.j2 k y0 y1 y2 y3 y4 y5) (postbagref01_Field0.j2 (k + 1) y0 y1 y2 y3 y4 y5))
  | 0 => ⟨fun _ _ _ _ r h => by simp [postbagref01_Field0.j0] at h, fun _ _ _ _ _ r h => by simp [postbagref01_Field0.l0] at h, fun _ _ _ _ _ _ r h => by simp [postbagref01_Field0.j2] at h⟩
  | k + 1 => by
    obtain ⟨ih0, ih1, ih2⟩ := postbagref01_Field0.mono_l k
    refine ⟨?_, ?_, ?_⟩
    · intro y0 y1 y2 y3
      unfold postbagref01_Field0.j0
      repeat' first
      | (with_reducible exact ih0 _ _ _ _)
      | (with_reducible exact ih1 _ _ _ _ _)
      | (with_reducible exact ih2 _ _ _ _ _ _)
      | (with_reducible exact LeO.refl _)
      | (with_reducible exact LeO.none _)
      | (with_reducible refine LeO.ite ?_ ?_)
      | (with_reducible refine LeO.bind ?_ (fun _ => ?_))
      | exact ih0 _ _ _ _
      | exact ih1 _ _ _ _ _
      | exact ih2 _ _ _ _ _ _
      | exact LeO.none _
      | refine LeO.ite ?_ ?_
      | refine LeO.bind ?_ (fun _ => ?_)
    · intro y0 y1 y2 y3 y4
      unfold postbagref01_Field0.l0
      repeat' first
      | (with_reducible exact ih0 _ _ _ _)
      | (with_reducible exact ih1 _ _ _ _ _)
      | (with_reducible exact ih2 _ _ _ _ _ _)
      | (with_reducible exact LeO.refl _)
      | (with_reducible exact LeO.none _)
      | (with_reducible refine LeO.ite ?_ ?_)
      | (with_reducible refine LeO.bind ?_ (fun _ => ?_))
      | exact ih0 _ _ _ _
      | exact ih1 _ _ _ _ _
      | exact ih2 _ _ _ _ _ _
      | exact LeO.none _
      | refine LeO.ite ?_ ?_
      | refine LeO.bind ?_ (fun _ => ?_)
    · intro y0 y1 y2 y3 y4 y5
      unfold postbagref01_Field0.j2
      repeat' first
      | (with_reducible exact ih0 _ _ _ _)
      | (with_reducible exact ih1 _ _ _ _ _)
      | (with_reducible exact ih2 _ _ _ _ _ _)
      | (with_reducible exact LeO.refl _)
      | (with_reducible exact LeO.none _)
      | (with_reducible refine LeO.ite ?_ ?_)
      | (with_reducible refine LeO.bind ?_ (fun _ => ?_))
      | exact ih0 _ _ _ _
      | exact ih1 _ _ _ _ _
      | exact ih2 _ _ _ _ _ _
      | exact LeO.none _
      | refine LeO.ite ?_ ?_
      | refine LeO.bind ?_ (fun _ => ?_)
theorem postbagref01_Field0.mono : ∀ a0 a1 a2 k, LeO (postbagref01_Field0.f k a0 a1 a2) (postbagref01_Field0.f (k + 1) a0 a1 a2) := by
  intro a0 a1 a2 k
  obtain ⟨ih0, ih1, ih2⟩ := postbagref01_Field0.mono_l k
  unfold postbagref01_Field0.f
  repeat' first
      | (with_reducible exact ih0 _ _ _ _)
      | (with_reducible exact ih1 _ _ _ _ _)
      | (with_reducible exact ih2 _ _ _ _ _ _)
      | (with_reducible exact LeO.refl _)
      | (with_reducible exact LeO.none _)
      | (with_reducible refine LeO.ite ?_ ?_)
      | (with_reducible refine LeO.bind ?_ (fun _ => ?_))
      | exact ih0 _ _ _ _
      | exact ih1 _ _ _ _ _
      | exact ih2 _ _ _ _ _ _
      | exact LeO.none _
      | refine LeO.ite ?_ ?_
      | refine LeO.bind ?_ (fun _ => ?_)
set_option maxHeartbeats 8000000 in
set_option maxRecDepth 100000 in
theorem postbagref01_Field0.calls (k : Nat) (a0 : Int) (a1 : Int) (a2 : Int) (r : Int) (w : World) (h : postbagref01_Field0.f k a0 a1 a2 = some r) :
    Calls Try.prog 19 #[.int .u64 a0, .int .i64 a1, .int .i64 a2] w fun e w' => e = .returned (.int .u64 r) ∧ Drawn0 w w' := by
  have H : (if a1 < 0 then (postbagref01_Field0.j0 k a0 a1 a2 true) else (if a1 > 63 then (postbagref01_Field0.j0 k a0 a1 a2 true) else (postbagref01_Field0.j0 k a0 a1 a2 (decide (a2 < 1))))) = some r := h
  clear h
  have HC4 := Aside0.mk H
  clear H
  go_enter Try.func19, Try.ntmps19
  go_upto_region 1 with (fail)
  go_cut [18] (fun v18 wc => ∃ (kq : Nat) (x18_3 : Bool), v18 = .bool x18_3 ∧ Aside0 (postbagref01_Field0.j0 kq a0 a1 a2 x18_3 = some r) ∧ Aside0 (kq ≤ k) ∧ Drawn0 w wc)
  case first =>
    have H := HC4.out
    clear HC4
    by_cases c5 : a1 < 0
    · rw [if_pos c5] at H
      have c5b0 : decide (a1 < 0) = true := decide_eq_true c5
      clear c5
      (first | rw [c5b0] | (simp only [i64_w, i32_w]; rw [c5b0]) | skip)
      have H' := Aside0.mk H
      clear H
      go_wp2
      go_meet
      case rel => exact ⟨_, (true), (by first | rfl | (simp; done) | (simp [*]; done)), H', ⟨by first | omega | exact Nat.le_refl _⟩, by repeat (first | exact Drawn0.refl _ | apply Drawn0.step)⟩
    · rw [if_neg c5] at H
      have c5b0 : decide (a1 < 0) = false := decide_eq_false c5
      clear c5
      (first | rw [c5b0] | (simp only [i64_w, i32_w]; rw [c5b0]) | skip)
      by_cases c6 : a1 > 63
      · rw [if_pos c6] at H
        have c6b0 : decide (63 < a1) = true := decide_eq_true c6
        clear c6
        have H' := Aside0.mk H
        clear H
        go_wp2
        go_meet
        case rel => exact ⟨_, (true), (by first | rfl | (simp; done) | (simp [*]; done)), H', ⟨by first | omega | exact Nat.le_refl _⟩, by repeat (first | exact Drawn0.refl _ | apply Drawn0.step)⟩
      · rw [if_neg c6] at H
        have c6b0 : decide (63 < a1) = false := decide_eq_false c6
        clear c6
        have H' := Aside0.mk H
        clear H
        go_wp2
        go_meet
        case rel => exact ⟨_, (decide (a2 < 1)), (by first | rfl | (simp; done) | (simp [*]; done)), H', ⟨by first | omega | exact Nat.le_refl _⟩, by repeat (first | exact Drawn0.refl _ | apply Drawn0.step)⟩
  case rest =>
    clear HC4
    try clear c1
    try clear p2
    try clear c5
    try clear c5b0
    try clear c6
    try clear c6b0
    obtain ⟨kq, x18_3, rfl, HA, HJ3, ⟨mc3, rfl⟩⟩ := hcut
    cases kq with
    | zero => exact absurd HA.out (by simp [postbagref01_Field0.j0])
    | succ kj3 =>
      have H := HA.out
      clear HA
      simp only [postbagref01_Field0.j0] at H
      by_cases c7 : x18_3 = true
      · subst c7
        have H1 : (some 0) = some r := by rw [if_pos rfl] at H; exact H
        clear H
        have H := H1
        clear H1
        obtain rfl := Option.some.inj H
        go_wp2
        go_ret
        exact ⟨by first | rfl | (simp; done) | (simp [*]; done), by repeat (first | exact Drawn0.refl _ | apply Drawn0.step)⟩
      · replace c7 := Bool.eq_false_iff.mpr c7
        subst c7
        have H1 : (postbagref01_Field0.l0 kj3 a0 a1 a2 0 0) = some r := by rw [if_neg (show ¬ (false = true) by decide)] at H; exact H
        clear H
        have H := H1
        clear H1
        have H' := Aside0.mk H
        clear H
        go_wp2
        go_loopg [7, 8] kj3 (fun kq v7 v8 w' => ∃ (x7_2 : Int) (x8_2 : Int), v7 = .int .u64 x7_2 ∧ v8 = .int .i64 x8_2 ∧ Aside0 (postbagref01_Field0.l0 kq a0 a1 a2 x7_2 x8_2 = some r) ∧ Aside0 (kq ≤ kj3) ∧ Drawn0 w w')
        case atStart => exact ⟨(0), (0), (by first | rfl | (simp; done) | (simp [*]; done)), (by first | rfl | (simp; done) | (simp [*]; done)), H', ⟨Nat.le_refl _⟩, by repeat (first | exact Drawn0.refl _ | apply Drawn0.step)⟩
        case round =>
          clear H'
          try clear c1
          try clear p2
          try clear c3
          try clear c5
          try clear c5b0
          try clear c6
          try clear c6b0
          try clear c7
          try clear p2
          obtain ⟨x7_2, x8_2, rfl, rfl, HA, HK2, ⟨m2, rfl⟩⟩ := hrel
          cases gk with
          | zero => exact absurd HA.out (by simp [postbagref01_Field0.l0])
          | succ k2 =>
            have H := HA.out
            clear HA
            simp only [postbagref01_Field0.l0] at H
            have HC8 := Aside0.mk H
            clear H
            go_upto_region 5 with (fail)
            go_cut [27] (fun v27 wc => ∃ (kq : Nat) (x27_7 : Bool), v27 = .bool x27_7 ∧ Aside0 (postbagref01_Field0.j2 kq a0 a1 a2 x7_2 x8_2 x27_7 = some r) ∧ Aside0 (kq ≤ k2) ∧ Drawn0 w wc)
            case first =>
              have H := HC8.out
              clear HC8
              by_cases c9 : x8_2 < a2
              · rw [if_pos c9] at H
                have c9b0 : decide (x8_2 < a2) = true := decide_eq_true c9
                clear c9
                (first | rw [c9b0] | (simp only [i64_w, i32_w]; rw [c9b0]) | skip)
                have H' := Aside0.mk H
                clear H
                go_wp2
                go_meet
                case rel => exact ⟨_, (decide (x8_2 < (wrap64 (64 - a1)))), (by first | rfl | (simp; done) | (simp [*]; done)), H', ⟨by have := HJ3.out; have := HK2.out; first | omega | exact Nat.le_refl _⟩, by repeat (first | exact Drawn0.refl _ | apply Drawn0.step)⟩
              · rw [if_neg c9] at H
                have c9b0 : decide (x8_2 < a2) = false := decide_eq_false c9
                clear c9
                (first | rw [c9b0] | (simp only [i64_w, i32_w]; rw [c9b0]) | skip)
                have H' := Aside0.mk H
                clear H
                go_wp2
                go_meet
                case rel => exact ⟨_, (false), (by first | rfl | (simp; done) | (simp [*]; done)), H', ⟨by have := HJ3.out; have := HK2.out; first | omega | exact Nat.le_refl _⟩, by repeat (first | exact Drawn0.refl _ | apply Drawn0.step)⟩
            case rest =>
              clear HC8
              try clear c1
              try clear p2
              try clear c3
              try clear c5
              try clear c5b0
              try clear c6
              try clear c6b0
              try clear p6
              try clear c7
              try clear c9
              try clear c9b0
              try clear p2
              obtain ⟨kq, x27_7, rfl, HA, HJ7, ⟨mc7, rfl⟩⟩ := hcut
              cases kq with
              | zero => exact absurd HA.out (by simp [postbagref01_Field0.j2])
              | succ kj7 =>
                have H := HA.out
                clear HA
                simp only [postbagref01_Field0.j2] at H
                by_cases c10 : x27_7 = true
                · subst c10
                  have H1 : ((postbagref01_Bit.f a0 (wrap64 (a1 + x8_2))).bind fun t143 => ((postbagref01_power.f x8_2).bind fun t144 => (postbagref01_Field0.l0 kj7 a0 a1 a2 (IntKind.u64.wrap (x7_2 + (IntKind.u64.wrap (t143 * t144)))) (wrap64 (x8_2 + 1))))) = some r := by rw [if_pos rfl] at H; exact H
                  clear H
                  have H := H1
                  clear H1
                  replace H := Option.bind_eq_some_iff.mp H
                  obtain ⟨t143, A110, H⟩ := H
                  replace H : ((postbagref01_power.f x8_2).bind fun t144 => (postbagref01_Field0.l0 kj7 a0 a1 a2 (IntKind.u64.wrap (x7_2 + (IntKind.u64.wrap (t143 * t144)))) (wrap64 (x8_2 + 1)))) = some r := H
                  have A11 := Aside0.mk A110
                  clear A110
                  replace H := Option.bind_eq_some_iff.mp H
                  obtain ⟨t144, A120, H⟩ := H
                  replace H : (postbagref01_Field0.l0 kj7 a0 a1 a2 (IntKind.u64.wrap (x7_2 + (IntKind.u64.wrap (t143 * t144)))) (wrap64 (x8_2 + 1))) = some r := H
                  have A12 := Aside0.mk A120
                  clear A120
                  have H' := Aside0.mk H
                  clear H
                  go_wp2_with (first | ((with_reducible refine gate_callee (f := 27) rfl ?_); refine goesL_ (some 35) rfl rfl Try.func27 (by kernel_rfl) rfl #[.int .u64 a0, .int .i64 (wrap64 (a1 + x8_2))] rfl (by (try simp only [List.map_toArray, List.map_cons, List.map_nil]); first | done | rfl | (simp only [List.length_drop, List.length_take]; rfl)) ?_; (with_reducible refine (postbagref01_Bit.calls a0 (wrap64 (a1 + x8_2)) t143 _ A11.out).mono ?_); rintro e w' ⟨rfl, ⟨nd, rfl⟩⟩; refine ⟨_, rfl, ?_⟩) | ((with_reducible refine gate_callee (f := 28) rfl ?_); refine goesL_ (some 37) rfl rfl Try.func28 (by kernel_rfl) rfl #[.int .i64 x8_2] rfl (by (try simp only [List.map_toArray, List.map_cons, List.map_nil]); first | done | rfl | (simp only [List.length_drop, List.length_take]; rfl)) ?_; (with_reducible refine (postbagref01_power.calls x8_2 t144 _ A12.out).mono ?_); rintro e w' ⟨rfl, ⟨nd, rfl⟩⟩; refine ⟨_, rfl, ?_⟩))
                  go_roundg kj7
                  case measure => have := HJ3.out; have := HK2.out; have := HJ7.out; omega
                  case rel => exact ⟨(IntKind.u64.wrap (x7_2 + (IntKind.u64.wrap (t143 * t144)))), (wrap64 (x8_2 + 1)), (by first | rfl | (simp; done) | (simp [*]; done)), (by first | rfl | (simp; done) | (simp [*]; done)), H', ⟨by have := HJ3.out; have := HK2.out; have := HJ7.out; omega⟩, by repeat (first | exact Drawn0.refl _ | apply Drawn0.step)⟩
                · replace c10 := Bool.eq_false_iff.mpr c10
                  subst c10
                  have H1 : (some x7_2) = some r := by rw [if_neg (show ¬ (false = true) by decide)] at H; exact H
                  clear H
                  have H := H1
                  clear H1
                  obtain rfl := Option.some.inj H
                  go_wp2
                  go_ret
                  exact ⟨by first | rfl | (simp; done) | (simp [*]; done), by repeat (first | exact Drawn0.refl _ | apply Drawn0.step)⟩
def postbagref01_Field.f (a0 : Int) (a1 : Int) (a2 : Int) : Option (Int) := if U64 a0 then some (fieldOf a0 a1 a2) else none
theorem postbagref01_Field.loop (X L M : Nat) (hX : X < 2 ^ 64) (hL : L ≤ 63) (d : Nat) : ∀ (k i : Nat), i + d = min M (64 - L) → 2 * d + 1 < k →
    postbagref01_Field0.l0 k X L M ((X / 2 ^ L % 2 ^ i : Nat) : Int) i = some ((X / 2 ^ L % 2 ^ (min M 64) : Nat) : Int) := by
  have hend : ∀ (k i : Nat), i = min M (64 - L) → 1 < k → postbagref01_Field0.l0 k X L M ((X / 2 ^ L % 2 ^ i : Nat) : Int) i = some ((X / 2 ^ L % 2 ^ (min M 64) : Nat) : Int) := by
    intro k i hi hk
    obtain ⟨k, rfl⟩ : ∃ m, k = m + 2 := ⟨k - 2, by omega⟩
    simp only [postbagref01_Field0.l0]
    have : postbagref01_Field0.j2 (k + 1) X L M ((X / 2 ^ L % 2 ^ i : Nat) : Int) i false = some ((X / 2 ^ L % 2 ^ (min M 64) : Nat) : Int) := by
      simp only [postbagref01_Field0.j2]; rw [if_neg (by decide), hi, field_all X L M hX hL]
    by_cases hM : (i : Int) < M
    · rw [if_pos hM, I64.wrap_eq (by unfold I64; omega), decide_eq_false (by omega)]; exact this
    · rw [if_neg hM]; exact this
  induction d with
  | zero => intro k i hi hk; exact hend k i (by omega) (by omega)
  | succ d ih =>
    intro k i hi hk
    obtain ⟨k, rfl⟩ : ∃ m, k = m + 2 := ⟨k - 2, by omega⟩
    simp only [postbagref01_Field0.l0]
    rw [if_pos (by omega), I64.wrap_eq (by unfold I64; omega), decide_eq_true (by omega)]
    simp only [postbagref01_Field0.j2]
    rw [if_pos trivial, I64.wrap_eq (by unfold I64; omega), I64.wrap_eq (by unfold I64; omega), postbagref01_Bit.eq (U64.mk hX)]
    simp only [Option.bind_some, postbagref01_power.f]
    have e1 : bitOf (X : Int) ((L : Int) + i) = ((X / 2 ^ (L + i) % 2 : Nat) : Int) := by
      rw [show ((L : Int) + i) = ((L + i : Nat) : Int) from by omega, bitOf_nat _ _ (by omega)]; simp
    have e2 : powOf (i : Int) = ((2 ^ i : Nat) : Int) := by unfold powOf; rw [if_neg (by omega), if_neg (by omega), Int.toNat_natCast, ipow]
    have hlt : X / 2 ^ L % 2 ^ (i + 1) < 2 ^ 64 := Nat.lt_of_le_of_lt (Nat.le_trans (Nat.mod_le _ _) (Nat.div_le_self _ _)) hX
    have hs := field_step X L i
    have e3 : IntKind.u64.wrap (((X / 2 ^ (L + i) % 2 : Nat) : Int) * ((2 ^ i : Nat) : Int)) = ((X / 2 ^ (L + i) % 2 * 2 ^ i : Nat) : Int) := by
      rw [← Int.natCast_mul]; exact wrap_nat _ (by omega)
    rw [e1, e2, e3, ← Int.natCast_add, ← hs, wrap_nat _ hlt, show ((i : Int) + 1) = ((i + 1 : Nat) : Int) from by omega]
    exact ih k (i + 1) (by omega) (by omega)
theorem postbagref01_Field.spec (a0 a1 a2 r : Int) (h : postbagref01_Field.f a0 a1 a2 = some r) : ∃ k, postbagref01_Field0.f k a0 a1 a2 = some r := by
  unfold postbagref01_Field.f at h
  by_cases hu : U64 a0
  · rw [if_pos hu] at h
    obtain rfl := Option.some.inj h
    refine ⟨133, ?_⟩
    unfold postbagref01_Field0.f
    by_cases h1 : a1 < 0
    · rw [if_pos h1]; simp only [postbagref01_Field0.j0, if_true, fieldOf]; rw [if_pos (Or.inl h1)]
    · rw [if_neg h1]
      by_cases h2 : a1 > 63
      · rw [if_pos h2]; simp only [postbagref01_Field0.j0, if_true, fieldOf]; rw [if_pos (Or.inr (Or.inl h2))]
      · rw [if_neg h2]
        by_cases h3 : a2 < 1
        · rw [decide_eq_true h3]; simp only [postbagref01_Field0.j0, if_true, fieldOf]; rw [if_pos (Or.inr (Or.inr h3))]
        · rw [decide_eq_false h3]
          simp only [postbagref01_Field0.j0]
          obtain ⟨X, rfl, hX⟩ := hu.nat
          obtain ⟨L, rfl⟩ : ∃ L : Nat, a1 = L := ⟨a1.toNat, by omega⟩
          obtain ⟨M, rfl⟩ : ∃ M : Nat, a2 = M := ⟨a2.toNat, by omega⟩
          have h := postbagref01_Field.loop X L M hX (by omega) (min M (64 - L)) 132 0 (by omega) (by omega)
          rw [if_neg (by decide), field_nat X L M (by omega) (by omega)]
          rw [Nat.pow_zero, Nat.mod_one] at h
          exact h
  · rw [if_neg hu] at h; exact absurd h (by simp)

theorem postbagref01_Field.calls (a0 : Int) (a1 : Int) (a2 : Int) (r : Int) (w : World) (h : postbagref01_Field.f a0 a1 a2 = some r) :
    Calls Try.prog 19 #[.int .u64 a0, .int .i64 a1, .int .i64 a2] w fun e w' => e = .returned (.int .u64 r) ∧ Drawn0 w w' := by
  obtain ⟨k, hk⟩ := postbagref01_Field.spec a0 a1 a2 r h
  exact postbagref01_Field0.calls k a0 a1 a2 r w hk

/-! ### bits_Place0: function 20 -/
def bits_Place0.f (a0 : Int) (a1 : Int) (a2 : Int) (a3 : Int) : Option (Int) := (bits_is.f a1 a2).bind fun t145 => (if t145 = true then ((bits_mask.f a2).bind fun t146 => (if 0 ≤ a1 then (some (Go.bits .or .u64 (Go.bits .andNot .u64 a0 (shl .u64 t146 a1)) (Go.bits .and .u64 (shl .u64 a3 a1) (shl .u64 t146 a1)))) else (none))) else (some a0))
set_option maxHeartbeats 8000000 in
set_option maxRecDepth 100000 in
theorem bits_Place0.calls (a0 : Int) (a1 : Int) (a2 : Int) (a3 : Int) (r : Int) (w : World) (h : bits_Place0.f a0 a1 a2 a3 = some r) :
    Calls Try.prog 20 #[.int .u64 a0, .int .i64 a1, .int .i64 a2, .int .u64 a3] w fun e w' => e = .returned (.int .u64 r) ∧ Drawn0 w w' := by
  have H : ((bits_is.f a1 a2).bind fun t145 => (if t145 = true then ((bits_mask.f a2).bind fun t146 => (if 0 ≤ a1 then (some (Go.bits .or .u64 (Go.bits .andNot .u64 a0 (shl .u64 t146 a1)) (Go.bits .and .u64 (shl .u64 a3 a1) (shl .u64 t146 a1)))) else (none))) else (some a0))) = some r := h
  clear h
  replace H := Option.bind_eq_some_iff.mp H
  obtain ⟨t145, A50, H⟩ := H
  replace H : (if t145 = true then ((bits_mask.f a2).bind fun t146 => (if 0 ≤ a1 then (some (Go.bits .or .u64 (Go.bits .andNot .u64 a0 (shl .u64 t146 a1)) (Go.bits .and .u64 (shl .u64 a3 a1) (shl .u64 t146 a1)))) else (none))) else (some a0)) = some r := H
  have A5 := Aside0.mk A50
  clear A50
  by_cases c6 : t145 = true
  · subst c6
    have H1 : ((bits_mask.f a2).bind fun t146 => (if 0 ≤ a1 then (some (Go.bits .or .u64 (Go.bits .andNot .u64 a0 (shl .u64 t146 a1)) (Go.bits .and .u64 (shl .u64 a3 a1) (shl .u64 t146 a1)))) else (none))) = some r := by rw [if_pos rfl] at H; exact H
    clear H
    have H := H1
    clear H1
    replace H := Option.bind_eq_some_iff.mp H
    obtain ⟨t146, A70, H⟩ := H
    replace H : (if 0 ≤ a1 then (some (Go.bits .or .u64 (Go.bits .andNot .u64 a0 (shl .u64 t146 a1)) (Go.bits .and .u64 (shl .u64 a3 a1) (shl .u64 t146 a1)))) else (none)) = some r := H
    have A7 := Aside0.mk A70
    clear A70
    by_cases c8 : 0 ≤ a1
    · rw [if_pos c8] at H
      have c8b0 := eq_true c8
      have c8b1 : decide (0 ≤ a1) = true := decide_eq_true c8
      clear c8
      obtain ⟨ji9, hji9⟩ : ∃ j_ : Int, (shl .u64 t146 a1) = j_ := ⟨_, rfl⟩
      replace H : (some (Go.bits .or .u64 (Go.bits .andNot .u64 a0 (ji9)) (Go.bits .and .u64 (shl .u64 a3 a1) (ji9)))) = some r := by first | (rw [hji9] at H; exact H) | (simp only [hji9] at H ⊢; exact H)
      (try rw [hji9] at A5)
      (try rw [hji9] at A7)
      have hji9_ : (IntKind.u64.wrap (t146 * 2 ^ min a1.toNat 64)) = ji9 := hji9
      have hji9z : a1 ≤ 64 → (IntKind.u64.wrap (t146 * 2 ^ a1.toNat)) = ji9 := shl_small hji9
      have c10b0 := eq_true (of_decide_eq_true (by first | (with_reducible assumption) | assumption) : 0 ≤ a1)
      obtain ⟨ji11, hji11⟩ : ∃ j_ : Int, (shl .u64 a3 a1) = j_ := ⟨_, rfl⟩
      replace H : (some (Go.bits .or .u64 (Go.bits .andNot .u64 a0 (ji9)) (Go.bits .and .u64 (ji11) (ji9)))) = some r := by first | (rw [hji11] at H; exact H) | (simp only [hji11] at H ⊢; exact H)
      (try rw [hji11] at A5)
      (try rw [hji11] at A7)
      have hji11_ : (IntKind.u64.wrap (a3 * 2 ^ min a1.toNat 64)) = ji11 := hji11
      have hji11z : a1 ≤ 64 → (IntKind.u64.wrap (a3 * 2 ^ a1.toNat)) = ji11 := shl_small hji11
      obtain rfl := Option.some.inj H
      go_enter Try.func20, Try.ntmps20
      go_wp2_with (first | ((with_reducible refine gate_callee (f := 29) rfl ?_); refine goesL_ (some 12) rfl rfl Try.func29 (by kernel_rfl) rfl #[.int .i64 a1, .int .i64 a2] rfl (by (try simp only [List.map_toArray, List.map_cons, List.map_nil]); first | done | rfl | (simp only [List.length_drop, List.length_take]; rfl)) ?_; (with_reducible refine (bits_is.calls a1 a2 true _ A5.out).mono ?_); rintro e w' ⟨rfl, ⟨nd, rfl⟩⟩; refine ⟨_, rfl, ?_⟩) | ((with_reducible refine gate_callee (f := 30) rfl ?_); refine goesL_ (some 16) rfl rfl Try.func30 (by kernel_rfl) rfl #[.int .i64 a2] rfl (by (try simp only [List.map_toArray, List.map_cons, List.map_nil]); first | done | rfl | (simp only [List.length_drop, List.length_take]; rfl)) ?_; (with_reducible refine (bits_mask.calls a2 t146 _ A7.out).mono ?_); rintro e w' ⟨rfl, ⟨nd, rfl⟩⟩; refine ⟨_, rfl, ?_⟩))
      go_ret
      exact ⟨by first | rfl | (simp; done) | (simp only [← hji9, ← hji11] <;> (first | rfl | simp)) | (simp [*]; done), by repeat (first | exact Drawn0.refl _ | apply Drawn0.step)⟩
    · rw [if_neg c8] at H
      exact absurd H (by simp)
  · replace c6 := Bool.eq_false_iff.mpr c6
    subst c6
    have H1 : (some a0) = some r := by rw [if_neg (show ¬ (false = true) by decide)] at H; exact H
    clear H
    have H := H1
    clear H1
    obtain rfl := Option.some.inj H
    go_enter Try.func20, Try.ntmps20
    go_wp2_with (first | ((with_reducible refine gate_callee (f := 29) rfl ?_); refine goesL_ (some 12) rfl rfl Try.func29 (by kernel_rfl) rfl #[.int .i64 a1, .int .i64 a2] rfl (by (try simp only [List.map_toArray, List.map_cons, List.map_nil]); first | done | rfl | (simp only [List.length_drop, List.length_take]; rfl)) ?_; (with_reducible refine (bits_is.calls a1 a2 false _ A5.out).mono ?_); rintro e w' ⟨rfl, ⟨nd, rfl⟩⟩; refine ⟨_, rfl, ?_⟩))
    go_ret
    exact ⟨by first | rfl | (simp; done) | (simp [*]; done), by repeat (first | exact Drawn0.refl _ | apply Drawn0.step)⟩
def bits_Place.f (a0 : Int) (a1 : Int) (a2 : Int) (a3 : Int) : Option (Int) := if U64 a0 ∧ U64 a3 then some (placeOf a0 a1 a2 a3) else none
theorem bits_Place.spec (a0 a1 a2 a3 r : Int) (h : bits_Place.f a0 a1 a2 a3 = some r) : bits_Place0.f a0 a1 a2 a3 = some r := by
  unfold bits_Place.f at h
  by_cases hu : U64 a0 ∧ U64 a3
  · rw [if_pos hu] at h
    obtain rfl := Option.some.inj h
    unfold bits_Place0.f bits_is.f
    by_cases h1 : a1 ≥ 0
    · rw [if_pos h1]
      by_cases h2 : a1 < 64
      · rw [if_pos h2]
        simp only [Option.bind_some]
        by_cases h3 : a2 ≥ 1
        · rw [decide_eq_true h3, if_pos rfl, bits_mask.f, if_pos h3]
          simp only [Option.bind_some]
          rw [if_pos h1]
          obtain ⟨X, rfl, hX⟩ := hu.1.nat
          obtain ⟨V, rfl, hV⟩ := hu.2.nat
          obtain ⟨L, rfl⟩ : ∃ L : Nat, a1 = L := ⟨a1.toNat, by omega⟩
          obtain ⟨M, rfl⟩ : ∃ M : Nat, a2 = M := ⟨a2.toNat, by omega⟩
          rw [place_nat X L M V (by omega) (by omega), show (min (M : Int) 64).toNat = min M 64 from by omega]
          have es : ∀ Y : Nat, shl .u64 (Y : Int) (L : Int) = ((Y * 2 ^ L % 2 ^ 64 : Nat) : Int) := fun Y => by
            unfold shl; rw [Int.toNat_natCast, Nat.min_eq_left (show L ≤ IntKind.u64.bits by show _ ≤ 64; omega), u64w]; simp
          have em : ((2 : Int) ^ (min M 64) - 1) = ((2 ^ (min M 64) - 1 : Nat) : Int) := by rw [ipow]; have := Nat.two_pow_pos (min M 64); omega
          have hlt : ∀ Y : Nat, Y % 2 ^ 64 < 2 ^ 64 := fun Y => Nat.mod_lt _ (by decide)
          have hlt2 : ∀ Y Z : Nat, (Y % 2 ^ 64) &&& Z < 2 ^ 64 := fun Y Z => Nat.lt_of_le_of_lt Nat.and_le_left (hlt _)
          rw [em, es, es, andNot_nat _ _ hX (hlt _), and_nat _ _ (hlt _) (hlt _), or_nat _ _ (minus_lt _ _ hX) (hlt2 _ _)]
          congr 2
          apply Nat.eq_of_testBit_eq
          intro i
          rw [testBit_place, Nat.testBit_or, Nat.testBit_and, testBit_minus _ _ _ hX (hlt _)]
          rw [Nat.testBit_mod_two_pow, Nat.testBit_mod_two_pow, Nat.mul_comm _ (2 ^ L), Nat.mul_comm _ (2 ^ L), Nat.testBit_two_pow_mul, Nat.testBit_two_pow_mul, Nat.testBit_two_pow_sub_one]
          by_cases hi : i < 64
          · by_cases hl : L ≤ i
            · by_cases hm : i - L < min M 64
              · rw [if_pos (by omega)]; simp [hi, hl, hm]
              · rw [if_neg (by omega)]; simp [hi, hl, hm]
            · rw [if_neg (by omega)]; simp [hi, hl]
          · rw [bits_of_lt hX (by omega), if_neg (by omega)]; simp [hi]
        · rw [decide_eq_false h3, if_neg (by decide), placeOf, if_pos (Or.inr (Or.inr (by omega)))]
      · rw [if_neg h2]; simp only [Option.bind_some]
        rw [if_neg (by decide), placeOf, if_pos (Or.inr (Or.inl (by omega)))]
    · rw [if_neg h1]; simp only [Option.bind_some]
      rw [if_neg (by decide), placeOf, if_pos (Or.inl (by omega))]
  · rw [if_neg hu] at h; exact absurd h (by simp)
theorem bits_Place.eq {a0 a3 : Int} (h : U64 a0) (h3 : U64 a3) (a1 a2 : Int) : bits_Place.f a0 a1 a2 a3 = some (placeOf a0 a1 a2 a3) := if_pos ⟨h, h3⟩

theorem bits_Place.calls (a0 : Int) (a1 : Int) (a2 : Int) (a3 : Int) (r : Int) (w : World) (h : bits_Place.f a0 a1 a2 a3 = some r) :
    Calls Try.prog 20 #[.int .u64 a0, .int .i64 a1, .int .i64 a2, .int .u64 a3] w fun e w' => e = .returned (.int .u64 r) ∧ Drawn0 w w' := by
  have hk := bits_Place.spec a0 a1 a2 a3 r h
  exact bits_Place0.calls a0 a1 a2 a3 r w hk

end Go.Proofs.Ytlclelgcdainfaa.PAll
