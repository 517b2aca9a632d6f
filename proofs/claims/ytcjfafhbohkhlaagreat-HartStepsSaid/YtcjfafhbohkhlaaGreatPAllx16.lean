/- DERIVED. Printed contracts of functions. -/
import Derived.Test.YtcjfafhbohkhlaaGreatPAllx0
import Derived.Test.YtcjfafhbohkhlaaGreatPAllx11
import Derived.Test.YtcjfafhbohkhlaaGreatPAllx12
import Derived.Test.YtcjfafhbohkhlaaGreatPAllx14
namespace Go.Proofs.YtcjfafhbohkhlaaGreat.PAll
open Go.RowKit Go.Proofs.YtcjfafhbohkhlaaGreatW.PrintWords Go.Proofs.YtcjfafhbohkhlaaGreatW.PrintLast Go.Proofs.YtcjfafhbohkhlaaGreatW.PrintMore Go.Proofs.YtcjfafhbohkhlaaGreat.M
attribute [local go_sem] max2_int min2_int max_two min_two max_three min_three max_four min_four
set_option linter.unusedVariables false
set_option linter.unusedSimpArgs false
def postbagref04_Address.j0 : Nat → Int → Bool → Int → Int → Int → Int → Int → Bool → Bool → Option (Int)
 | 0, _, _, _, _, _, _, _, _, _ => none
 | k + 1, x1, x12, x296000, x296001, x296002, x296003, x296004, x296005, x296006 => if x12 = true then (some (IntKind.u64.wrap (x1 + (IntKind.u64.wrap (x296004))))) else ((postbagref02_Atomic.f x296000).bind fun t296 => (if t296 = true then (some x1) else (some 0)))
def postbagref04_Address.f (k : Nat) (a0_0 : Int) (a0_1 : Int) (a0_2 : Int) (a0_3 : Int) (a0_4 : Int) (a0_5 : Bool) (a0_6 : Bool) (a1 : Int) : Option (Int) := if a0_0 ≥ 11 then (postbagref04_Address.j0 k a1 (decide (a0_0 ≤ 21)) a0_0 a0_1 a0_2 a0_3 a0_4 a0_5 a0_6) else (postbagref04_Address.j0 k a1 false a0_0 a0_1 a0_2 a0_3 a0_4 a0_5 a0_6)
theorem postbagref04_Address.mono_l : ∀ k, (∀ y0 y1 y2 y3 y4 y5 y6 y7 y8, LeO (postbagref04_Address.j0 k y0 y1 y2 y3 y4 y5 y6 y7 y8) (postbagref04_Address.j0 (k + 1) y0 y1 y2 y3 y4 y5 y6 y7 y8))
 | 0 => fun _ _ _ _ _ _ _ _ _ r h => by simp [postbagref04_Address.j0] at h
 | k + 1 => by
  have ih0 := postbagref04_Address.mono_l k
  ·intro y0 y1 y2 y3 y4 y5 y6 y7 y8
   unfold postbagref04_Address.j0
   exact leo
theorem postbagref04_Address.mono : ∀ a0 a1 a2 a3 a4 a5 a6 a7 k, LeO (postbagref04_Address.f k a0 a1 a2 a3 a4 a5 a6 a7) (postbagref04_Address.f (k + 1) a0 a1 a2 a3 a4 a5 a6 a7) := by
 intro a0 a1 a2 a3 a4 a5 a6 a7 k
 have ih0 := postbagref04_Address.mono_l k
 unfold postbagref04_Address.f
 exact leo
set_option maxHeartbeats 8000000 in
set_option maxRecDepth 100000 in
theorem postbagref04_Address.calls (k : Nat) (a0_0 : Int) (a0_1 : Int) (a0_2 : Int) (a0_3 : Int) (a0_4 : Int) (a0_5 : Bool) (a0_6 : Bool) (a1 : Int) (r : Int) (w : World) (h : postbagref04_Address.f k a0_0 a0_1 a0_2 a0_3 a0_4 a0_5 a0_6 a1 = some r) :
  Calls Tryz.prog 63 #[.agg #[.int .i64 a0_0, .int .i64 a0_1, .int .i64 a0_2, .int .i64 a0_3, .int .i64 a0_4, .bool a0_5, .bool a0_6], .int .u64 a1] w fun e w' => e = .returned (.int .u64 r) ∧ Below w.heap.size w w' := by
 have hu50 := Tryz.underlying50
 have HB := am (Below.refl w.heap.size w)
 have H := h
 clear h
 unfold postbagref04_Address.f at H
 have HC3 := am H
 clear H
 go_enter Tryz.func63, Tryz.ntmps63
 go_upto_region 1 with (first | ((with_reducible refine gate_dst (N := 2) rfl ?_); refine be 2 50 #[.int .i64 a0_0, .int .i64 a0_1, .int .i64 a0_2, .int .i64 a0_3, .int .i64 a0_4, .bool a0_5, .bool a0_6] ?_; intro gb295 hg w4 hbox hb; have BK295 := am hbox; have GW295 := bz HB hg; have GE295 := bz HB hg; replace HB := bn HB hb; clear hb hbox hg))
 (try simp only [Act.put, List.setIfInBounds_toArray, List.set_cons_zero, List.set_cons_succ])
 go_cut [12] (fun v12 wc => ∃ (kq : Nat) (x12_2 : Bool), v12 = .bool x12_2 ∧ Aside0 (postbagref04_Address.j0 kq a1 x12_2 a0_0 a0_1 a0_2 a0_3 a0_4 a0_5 a0_6 = some r) ∧ Aside0 (kq ≤ k) ∧ Aside0 (wc.heap[gb295]? = some (.cells #[.int .i64 a0_0, .int .i64 a0_1, .int .i64 a0_2, .int .i64 a0_3, .int .i64 a0_4, .bool a0_5, .bool a0_6] 50 (0, 0))) ∧ Aside0 (Below w.heap.size w wc))
 case first =>
  have H := HC3.out
  clear HC3
  by_cases c5 : a0_0 ≥ 11
  ·rw [if_pos c5] at H
   have c5b0 : decide (11 ≤ a0_0) = true := decide_eq_true c5
   clear c5
   (first | rw [c5b0] | (simp only [i64_w, i32_w]; rw [c5b0]) | skip)
   have H' := am H
   clear H
   obtain ⟨z6_0, z6_1, z6_2, z6_3, z6_4, z6_5, z6_6, f6_0, f6_1, f6_2, f6_3, f6_4, f6_5, f6_6⟩ := cf7 BK295
   go_wp2
   go_meet
   case rel => exact ⟨_, (decide (a0_0 ≤ 21)), fr, H', ⟨om⟩, ⟨bu BK295⟩, ⟨bs HB GE295⟩⟩
  ·rw [if_neg c5] at H
   have c5b0 : decide (11 ≤ a0_0) = false := decide_eq_false c5
   clear c5
   (first | rw [c5b0] | (simp only [i64_w, i32_w]; rw [c5b0]) | skip)
   have H' := am H
   clear H
   obtain ⟨z7_0, z7_1, z7_2, z7_3, z7_4, z7_5, z7_6, f7_0, f7_1, f7_2, f7_3, f7_4, f7_5, f7_6⟩ := cf7 BK295
   go_wp2
   go_meet
   case rel => exact ⟨_, (false), fr, H', ⟨om⟩, ⟨bu BK295⟩, ⟨bs HB GE295⟩⟩
 case rest =>
  clear HC3
  try clear p2
  try clear c5
  try clear c5b0
  try clear c6
  try clear z6_0
  try clear z6_1
  try clear z6_2
  try clear z6_3
  try clear z6_4
  try clear z6_5
  try clear z6_6
  try clear z7_0
  try clear z7_1
  try clear z7_2
  try clear z7_3
  try clear z7_4
  try clear z7_5
  try clear z7_6
  try clear f6_0
  try clear f6_1
  try clear f6_2
  try clear f6_3
  try clear f6_4
  try clear f6_5
  try clear f6_6
  try clear f7_0
  try clear f7_1
  try clear f7_2
  try clear f7_3
  try clear f7_4
  try clear f7_5
  try clear f7_6
  obtain ⟨kq, x12_2, rfl, HA, HJ2, BK295, HB⟩ := hcut
  cases kq with
  | zero => exact absurd HA.out (by simp [postbagref04_Address.j0])
  | succ kj2 =>
   have H := HA.out
   clear HA
   simp only [postbagref04_Address.j0] at H
   by_cases c8 : x12_2 = true
   ·subst c8
    rw [if_pos rfl] at H
    obtain rfl := Option.some.inj H
    obtain ⟨z9_0, z9_1, z9_2, z9_3, z9_4, z9_5, z9_6, f9_0, f9_1, f9_2, f9_3, f9_4, f9_5, f9_6⟩ := cf7 BK295
    go_wp2
    go_ret
    exact ⟨fe, bs HB GE295⟩
   ·replace c8 := Bool.eq_false_iff.mpr c8
    subst c8
    rw [if_neg ff] at H
    obtain ⟨t296, A10, H⟩ := bam H
    try dsimp only at H
    by_cases c11 : t296 = true
    ·subst c11
     rw [if_pos rfl] at H
     obtain rfl := Option.some.inj H
     obtain ⟨z12_0, z12_1, z12_2, z12_3, z12_4, z12_5, z12_6, f12_0, f12_1, f12_2, f12_3, f12_4, f12_5, f12_6⟩ := cf7 BK295
     go_wp2_with (first | ((with_reducible refine gate_callee (f := 62) rfl ?_); refine gl (some 20) rfl rfl Tryz.func62 rfl #[.int .i64 a0_0] rfl ?_; (with_reducible refine (postbagref02_Atomic.calls a0_0 true _ A10.out).mono ?_); rintro e w' ⟨rfl, ⟨nd, rfl⟩⟩; refine ⟨_, rfl, ?_⟩))
     go_ret
     exact ⟨fe, bs HB GE295⟩
    ·replace c11 := Bool.eq_false_iff.mpr c11
     subst c11
     rw [if_neg ff] at H
     obtain rfl := Option.some.inj H
     obtain ⟨z13_0, z13_1, z13_2, z13_3, z13_4, z13_5, z13_6, f13_0, f13_1, f13_2, f13_3, f13_4, f13_5, f13_6⟩ := cf7 BK295
     go_wp2_with (first | ((with_reducible refine gate_callee (f := 62) rfl ?_); refine gl (some 20) rfl rfl Tryz.func62 rfl #[.int .i64 a0_0] rfl ?_; (with_reducible refine (postbagref02_Atomic.calls a0_0 false _ A10.out).mono ?_); rintro e w' ⟨rfl, ⟨nd, rfl⟩⟩; refine ⟨_, rfl, ?_⟩))
     go_ret
     exact ⟨fe, bs HB GE295⟩
def postbagref02_Stores0.f (a0 : Int) : Option (Bool) := if a0 ≥ 18 then (if a0 ≤ 21 then (some true) else ((postbagref02_Atomic.f a0).bind fun t297 => (if t297 = true then (if a0 = 66 then (some false) else (some (a0 != 77))) else (some false)))) else ((postbagref02_Atomic.f a0).bind fun t298 => (if t298 = true then (if a0 = 66 then (some false) else (some (a0 != 77))) else (some false)))
set_option maxHeartbeats 8000000 in
set_option maxRecDepth 100000 in
theorem postbagref02_Stores0.calls (a0 : Int) (r : Bool) (w : World) (h : postbagref02_Stores0.f a0 = some r) :
  Calls Tryz.prog 66 #[.int .i64 a0] w fun e w' => e = .returned (.bool r) ∧ Drawn0 w w' := by
 have H := h
 clear h
 unfold postbagref02_Stores0.f at H
 by_cases c2 : a0 ≥ 18
 ·rw [if_pos c2] at H
  have c2b0 : decide (18 ≤ a0) = true := decide_eq_true c2
  clear c2
  by_cases c3 : a0 ≤ 21
  ·rw [if_pos c3] at H
   have c3b0 : decide (a0 ≤ 21) = true := decide_eq_true c3
   clear c3
   obtain rfl := Option.some.inj H
   go_enter Tryz.func66, Tryz.ntmps66
   go_wp2
   go_ret
   exact fd
  ·rw [if_neg c3] at H
   have c3b0 : decide (a0 ≤ 21) = false := decide_eq_false c3
   clear c3
   obtain ⟨t297, A4, H⟩ := bam H
   try dsimp only at H
   by_cases c5 : t297 = true
   ·subst c5
    rw [if_pos rfl] at H
    by_cases c6 : a0 = 66
    ·rw [if_pos c6] at H
     obtain ⟨c6b0, c6b1⟩ := bqt c6
     clear c6
     obtain rfl := Option.some.inj H
     go_enter Tryz.func66, Tryz.ntmps66
     go_wp2_with (first | (go_at_call 62; (with_reducible refine (postbagref02_Atomic.calls a0 true _ A4.out).mono ?_); rintro e w' ⟨rfl, ⟨nd, rfl⟩⟩))
     go_ret
     exact fd
    ·rw [if_neg c6] at H
     obtain ⟨c6b0, c6b1⟩ := bqf c6
     obtain rfl := Option.some.inj H
     go_enter Tryz.func66, Tryz.ntmps66
     go_wp2_with (first | (go_at_call 62; (with_reducible refine (postbagref02_Atomic.calls a0 true _ A4.out).mono ?_); rintro e w' ⟨rfl, ⟨nd, rfl⟩⟩))
     go_ret
     exact fd
   ·replace c5 := Bool.eq_false_iff.mpr c5
    subst c5
    rw [if_neg ff] at H
    obtain rfl := Option.some.inj H
    go_enter Tryz.func66, Tryz.ntmps66
    go_wp2_with (first | (go_at_call 62; (with_reducible refine (postbagref02_Atomic.calls a0 false _ A4.out).mono ?_); rintro e w' ⟨rfl, ⟨nd, rfl⟩⟩))
    go_ret
    exact fd
 ·rw [if_neg c2] at H
  have c2b0 : decide (18 ≤ a0) = false := decide_eq_false c2
  clear c2
  obtain ⟨t298, A7, H⟩ := bam H
  try dsimp only at H
  by_cases c8 : t298 = true
  ·subst c8
   rw [if_pos rfl] at H
   by_cases c9 : a0 = 66
   ·rw [if_pos c9] at H
    obtain ⟨c9b0, c9b1⟩ := bqt c9
    clear c9
    obtain rfl := Option.some.inj H
    go_enter Tryz.func66, Tryz.ntmps66
    go_wp2_with (first | (go_at_call 62; (with_reducible refine (postbagref02_Atomic.calls a0 true _ A7.out).mono ?_); rintro e w' ⟨rfl, ⟨nd, rfl⟩⟩))
    go_ret
    exact fd
   ·rw [if_neg c9] at H
    obtain ⟨c9b0, c9b1⟩ := bqf c9
    obtain rfl := Option.some.inj H
    go_enter Tryz.func66, Tryz.ntmps66
    go_wp2_with (first | (go_at_call 62; (with_reducible refine (postbagref02_Atomic.calls a0 true _ A7.out).mono ?_); rintro e w' ⟨rfl, ⟨nd, rfl⟩⟩))
    go_ret
    exact fd
  ·replace c8 := Bool.eq_false_iff.mpr c8
   subst c8
   rw [if_neg ff] at H
   obtain rfl := Option.some.inj H
   go_enter Tryz.func66, Tryz.ntmps66
   go_wp2_with (first | (go_at_call 62; (with_reducible refine (postbagref02_Atomic.calls a0 false _ A7.out).mono ?_); rintro e w' ⟨rfl, ⟨nd, rfl⟩⟩))
   go_ret
   exact fd
def postbagref02_Stores.f (a0 : Int) : Option (Bool) := some (decide (18 ≤ a0 ∧ a0 ≤ 21 ∨ 66 ≤ a0 ∧ a0 ≤ 87 ∧ a0 ≠ 66 ∧ a0 ≠ 77))
theorem postbagref02_Stores.spec (a0 : Int) (r : Bool) (h : postbagref02_Stores.f a0 = some r) : postbagref02_Stores0.f a0 = some r := by
 rw [← h]; unfold postbagref02_Stores.f
 by_cases h1 : 18 ≤ a0 <;> by_cases h2 : a0 ≤ 21 <;> by_cases h3 : 66 ≤ a0 <;> by_cases h4 : a0 ≤ 87 <;> by_cases h5 : a0 = 66 <;> by_cases h6 : a0 = 77 <;> first | omega | (simp [postbagref02_Stores0.f, postbagref02_Atomic.f, *]; done) | (subst_vars; decide +kernel)
theorem postbagref02_Stores.calls (a0 : Int) (r : Bool) (w : World) (h : postbagref02_Stores.f a0 = some r) :
  Calls Tryz.prog 66 #[.int .i64 a0] w fun e w' => e = .returned (.bool r) ∧ Drawn0 w w' := by
 have hk := postbagref02_Stores.spec a0 r h
 exact postbagref02_Stores0.calls a0 r w hk
def postbagref04_negative.f (a0 : Int) : Option (Bool) := (postbagref01_Bit.f a0 63).bind fun t299 => (some (t299 == 1))
set_option maxHeartbeats 8000000 in
set_option maxRecDepth 100000 in
theorem postbagref04_negative.calls (a0 : Int) (r : Bool) (w : World) (h : postbagref04_negative.f a0 = some r) :
  Calls Tryz.prog 110 #[.int .u64 a0] w fun e w' => e = .returned (.bool r) ∧ Drawn0 w w' := by
 have H := h
 clear h
 unfold postbagref04_negative.f at H
 obtain ⟨t299, A2, H⟩ := bam H
 try dsimp only at H
 obtain rfl := Option.some.inj H
 go_enter Tryz.func110, Tryz.ntmps110
 go_wp2_with (first | ((with_reducible refine gate_callee (f := 103) rfl ?_); refine gl (some 4) rfl rfl Tryz.func103 rfl #[.int .u64 a0, .int .i64 63] rfl ?_; (with_reducible refine (postbagref01_Bit.calls a0 63 t299 _ A2.out).mono ?_); rintro e w' ⟨rfl, ⟨nd, rfl⟩⟩; refine ⟨_, rfl, ?_⟩))
 go_ret
 exact fd
def postbagref04_less.f (a0 : Int) (a1 : Int) : Option (Bool) := (postbagref04_negative.f a0).bind fun t300 => ((postbagref04_negative.f a1).bind fun t301 => (if (t300 != t301) = true then ((postbagref04_negative.f a0).bind fun t302 => (some t302)) else (some (decide (a0 < a1)))))
set_option maxHeartbeats 8000000 in
set_option maxRecDepth 100000 in
theorem postbagref04_less.calls (a0 : Int) (a1 : Int) (r : Bool) (w : World) (h : postbagref04_less.f a0 a1 = some r) :
  Calls Tryz.prog 73 #[.int .u64 a0, .int .u64 a1] w fun e w' => e = .returned (.bool r) ∧ Drawn0 w w' := by
 have H := h
 clear h
 unfold postbagref04_less.f at H
 obtain ⟨t300, A3, H⟩ := bam H
 try dsimp only at H
 obtain ⟨t301, A4, H⟩ := bam H
 try dsimp only at H
 by_cases c5 : (t300 != t301) = true
 ·rw [if_pos c5] at H
  have c5b0 : (t300 != t301) = true := c5
  (try (have c5b1 : decide (t300 = t301) = false := by simpa using c5))
  (try (have c5b2 : (t300 == t301) = false := by simpa using c5))
  (try (have c5b3 : ¬ (t300 = t301) := by simpa using c5))
  clear c5
  replace H := Option.bind_eq_some_iff.mp H
  obtain ⟨t302, A60, H⟩ := H
  replace H : (some t302) = some r := H
  have A6 := am A60
  clear A60
  obtain rfl := Option.some.inj H
  go_enter Tryz.func73, Tryz.ntmps73
  go_wp2_with (first | ((with_reducible refine gate_callee (f := 110) rfl ?_); refine gl (some 6) rfl rfl Tryz.func110 rfl #[.int .u64 a0] rfl ?_; (with_reducible refine (postbagref04_negative.calls a0 t300 _ A3.out).mono ?_); rintro e w' ⟨rfl, ⟨nd, rfl⟩⟩; refine ⟨_, rfl, ?_⟩) | ((with_reducible refine gate_callee (f := 110) rfl ?_); refine gl (some 8) rfl rfl Tryz.func110 rfl #[.int .u64 a1] rfl ?_; (with_reducible refine (postbagref04_negative.calls a1 t301 _ A4.out).mono ?_); rintro e w' ⟨rfl, ⟨nd, rfl⟩⟩; refine ⟨_, rfl, ?_⟩) | ((with_reducible refine gate_callee (f := 110) rfl ?_); refine gl (some 11) rfl rfl Tryz.func110 rfl #[.int .u64 a0] rfl ?_; (with_reducible refine (postbagref04_negative.calls a0 t302 _ A6.out).mono ?_); rintro e w' ⟨rfl, ⟨nd, rfl⟩⟩; refine ⟨_, rfl, ?_⟩))
  go_ret
  exact fd
 ·rw [if_neg c5] at H
  have c5b0 : (t300 != t301) = false := by simpa using c5
  (try (have c5b1 : decide (t300 = t301) = true := by simpa using c5))
  (try (have c5b2 : (t300 == t301) = true := by simpa using c5))
  clear c5
  obtain rfl := Option.some.inj H
  go_enter Tryz.func73, Tryz.ntmps73
  go_wp2_with (first | ((with_reducible refine gate_callee (f := 110) rfl ?_); refine gl (some 6) rfl rfl Tryz.func110 rfl #[.int .u64 a0] rfl ?_; (with_reducible refine (postbagref04_negative.calls a0 t300 _ A3.out).mono ?_); rintro e w' ⟨rfl, ⟨nd, rfl⟩⟩; refine ⟨_, rfl, ?_⟩) | ((with_reducible refine gate_callee (f := 110) rfl ?_); refine gl (some 8) rfl rfl Tryz.func110 rfl #[.int .u64 a1] rfl ?_; (with_reducible refine (postbagref04_negative.calls a1 t301 _ A4.out).mono ?_); rintro e w' ⟨rfl, ⟨nd, rfl⟩⟩; refine ⟨_, rfl, ?_⟩))
  go_ret
  exact fd
def postbagref04_Stored.j0 : Nat → Int → Int → Int → Int → Int → Int → Int → Option (Int)
 | 0, _, _, _, _, _, _, _ => none
 | k + 1, x7, x8, x9, x10, x11, x12, x13 => if x13 = 69 then ((postbagref01_Field.f (IntKind.u64.wrap (x8 + x9)) 0 x7).bind fun t309 => (some t309)) else (if x13 = 70 then ((postbagref01_Field.f (Go.bits .xor .u64 x8 x9) 0 x7).bind fun t310 => (some t310)) else (if x13 = 71 then ((postbagref01_Field.f (Go.bits .and .u64 x8 x9) 0 x7).bind fun t311 => (some t311)) else (if x13 = 72 then ((postbagref01_Field.f (Go.bits .or .u64 x8 x9) 0 x7).bind fun t312 => (some t312)) else (if x13 = 73 then ((postbagref04_less.f x8 x9).bind fun t313 => (if t313 = true then ((postbagref01_Field.f x8 0 x7).bind fun t314 => (some t314)) else ((postbagref01_Field.f x12 0 x7).bind fun t315 => (some t315)))) else (if x13 = 74 then ((postbagref04_less.f x9 x8).bind fun t316 => (if t316 = true then ((postbagref01_Field.f x8 0 x7).bind fun t317 => (some t317)) else ((postbagref01_Field.f x12 0 x7).bind fun t318 => (some t318)))) else (if x13 = 75 then ((postbagref01_Field.f (mn x10 x11) 0 x7).bind fun t319 => (some t319)) else (if x13 = 76 then ((postbagref01_Field.f (mx x10 x11) 0 x7).bind fun t320 => (some t320)) else ((postbagref01_Field.f x12 0 x7).bind fun t321 => (some t321)))))))))
def postbagref04_Stored.f (k : Nat) (a0 : Int) (a1 : Int) (a2 : Int) : Option (Int) := (postbagref02_Stores.f a0).bind fun t303 => (if t303 = true then ((postbagref02_Size.f a0).bind fun t304 => ((postbagref01_Sign.f a1 (wrap64 (8 * t304))).bind fun t305 => ((postbagref01_Sign.f a2 (wrap64 (8 * t304))).bind fun t306 => ((postbagref01_Field.f a1 0 (wrap64 (8 * t304))).bind fun t307 => ((postbagref01_Field.f a2 0 (wrap64 (8 * t304))).bind fun t308 => (if a0 ≥ 77 then (postbagref04_Stored.j0 k (wrap64 (8 * t304)) t305 t306 t307 t308 t306 (wrap64 ((wrap64 (a0 - 77)) + 66))) else (postbagref04_Stored.j0 k (wrap64 (8 * t304)) t305 t306 t307 t308 t306 a0))))))) else (some 0))
theorem postbagref04_Stored.mono_l : ∀ k, (∀ y0 y1 y2 y3 y4 y5 y6, LeO (postbagref04_Stored.j0 k y0 y1 y2 y3 y4 y5 y6) (postbagref04_Stored.j0 (k + 1) y0 y1 y2 y3 y4 y5 y6))
 | 0 => fun _ _ _ _ _ _ _ r h => by simp [postbagref04_Stored.j0] at h
 | k + 1 => by
  have ih0 := postbagref04_Stored.mono_l k
  ·intro y0 y1 y2 y3 y4 y5 y6
   unfold postbagref04_Stored.j0
   exact leo
theorem postbagref04_Stored.mono : ∀ a0 a1 a2 k, LeO (postbagref04_Stored.f k a0 a1 a2) (postbagref04_Stored.f (k + 1) a0 a1 a2) := by
 intro a0 a1 a2 k
 have ih0 := postbagref04_Stored.mono_l k
 unfold postbagref04_Stored.f
 exact leo
set_option maxHeartbeats 8000000 in
set_option maxRecDepth 100000 in
theorem postbagref04_Stored.calls (k : Nat) (a0 : Int) (a1 : Int) (a2 : Int) (r : Int) (w : World) (h : postbagref04_Stored.f k a0 a1 a2 = some r) :
  Calls Tryz.prog 64 #[.int .i64 a0, .int .u64 a1, .int .u64 a2] w fun e w' => e = .returned (.int .u64 r) ∧ Below w.heap.size w w' := by
 have HB := am (Below.refl w.heap.size w)
 have H := h
 clear h
 unfold postbagref04_Stored.f at H
 obtain ⟨t303, A4, H⟩ := bam H
 try dsimp only at H
 by_cases c5 : t303 = true
 ·subst c5
  rw [if_pos rfl] at H
  obtain ⟨t304, A6, H⟩ := bam H
  try dsimp only at H
  obtain ⟨t305, A7, H⟩ := bam H
  try dsimp only at H
  obtain ⟨t306, A8, H⟩ := bam H
  try dsimp only at H
  obtain ⟨t307, A9, H⟩ := bam H
  try dsimp only at H
  obtain ⟨t308, A10, H⟩ := bam H
  try dsimp only at H
  have HC11 := am H
  clear H
  go_enter Tryz.func64, Tryz.ntmps64
  go_upto_if 35 with (first | ((with_reducible refine gate_callee (f := 66) rfl ?_); refine gl (some 15) rfl rfl Tryz.func66 rfl #[.int .i64 a0] rfl ?_; (with_reducible refine (postbagref02_Stores.calls a0 true _ A4.out).mono ?_); rintro e w' ⟨rfl, ⟨nd, rfl⟩⟩; refine ⟨_, rfl, ?_⟩) | ((with_reducible refine gate_callee (f := 34) rfl ?_); refine gl (some 18) rfl rfl Tryz.func34 rfl #[.int .i64 a0] rfl ?_; (with_reducible refine (postbagref02_Size.calls a0 t304 _ A6.out).mono ?_); rintro e w' ⟨rfl, ⟨nd, rfl⟩⟩; refine ⟨_, rfl, ?_⟩) | ((with_reducible refine gate_callee (f := 97) rfl ?_); refine gl (some 22) rfl rfl Tryz.func97 rfl #[.int .u64 a1, .int .i64 (wrap64 (8 * t304))] rfl ?_; (with_reducible refine (postbagref01_Sign.calls a1 (wrap64 (8 * t304)) t305 _ A7.out).mono ?_); rintro e w' ⟨rfl, ⟨nd, rfl⟩⟩; refine ⟨_, rfl, ?_⟩) | ((with_reducible refine gate_callee (f := 97) rfl ?_); refine gl (some 25) rfl rfl Tryz.func97 rfl #[.int .u64 a2, .int .i64 (wrap64 (8 * t304))] rfl ?_; (with_reducible refine (postbagref01_Sign.calls a2 (wrap64 (8 * t304)) t306 _ A8.out).mono ?_); rintro e w' ⟨rfl, ⟨nd, rfl⟩⟩; refine ⟨_, rfl, ?_⟩) | ((with_reducible refine gate_callee (f := 98) rfl ?_); refine gl (some 28) rfl rfl Tryz.func98 rfl #[.int .u64 a1, .int .i64 0, .int .i64 (wrap64 (8 * t304))] rfl ?_; (with_reducible refine (postbagref01_Field.calls a1 0 (wrap64 (8 * t304)) t307 _ A9.out).mono ?_); rintro e w' ⟨rfl, ⟨nd, rfl⟩⟩; refine ⟨_, rfl, ?_⟩) | ((with_reducible refine gate_callee (f := 98) rfl ?_); refine gl (some 31) rfl rfl Tryz.func98 rfl #[.int .u64 a2, .int .i64 0, .int .i64 (wrap64 (8 * t304))] rfl ?_; (with_reducible refine (postbagref01_Field.calls a2 0 (wrap64 (8 * t304)) t308 _ A10.out).mono ?_); rintro e w' ⟨rfl, ⟨nd, rfl⟩⟩; refine ⟨_, rfl, ?_⟩))
  (try simp only [Act.put, List.setIfInBounds_toArray, List.set_cons_zero, List.set_cons_succ])
  go_cut [13] (fun v13 wc => ∃ (kq : Nat) (x13_10 : Int), v13 = .int .i64 x13_10 ∧ Aside0 (postbagref04_Stored.j0 kq (wrap64 (8 * t304)) t305 t306 t307 t308 t306 x13_10 = some r) ∧ Aside0 (kq ≤ k) ∧ Aside0 (Below w.heap.size w wc))
  case first =>
   have H := HC11.out
   clear HC11
   by_cases c12 : a0 ≥ 77
   ·rw [if_pos c12] at H
    have c12b0 : decide (77 ≤ a0) = true := decide_eq_true c12
    clear c12
    (first | rw [c12b0] | (simp only [i64_w, i32_w]; rw [c12b0]) | skip)
    have H' := am H
    clear H
    go_wp2
    go_meet
    case rel => exact ⟨_, (wrap64 ((wrap64 (a0 - 77)) + 66)), fr, H', ⟨om⟩, ⟨bb HB⟩⟩
   ·rw [if_neg c12] at H
    have c12b0 : decide (77 ≤ a0) = false := decide_eq_false c12
    clear c12
    (first | rw [c12b0] | (simp only [i64_w, i32_w]; rw [c12b0]) | skip)
    have H' := am H
    clear H
    go_wp2
    go_meet
    case rel => exact ⟨_, (a0), fr, H', ⟨om⟩, ⟨bb HB⟩⟩
  case rest =>
   clear HC11
   try clear c1
   try clear p2
   try clear c3
   try clear c5
   try clear c6
   try clear p6
   try clear c9
   try clear c12
   try clear c12b0
   obtain ⟨kq, x13_10, rfl, HA, HJ10, HB⟩ := hcut
   cases kq with
   | zero => exact absurd HA.out (by simp [postbagref04_Stored.j0])
   | succ kj10 =>
    have H := HA.out
    clear HA
    simp only [postbagref04_Stored.j0] at H
    by_cases c13 : x13_10 = 69
    ·rw [if_pos c13] at H
     obtain ⟨c13b0, c13b1⟩ := bqt c13
     clear c13
     replace H := Option.bind_eq_some_iff.mp H
     obtain ⟨t309, A140, H⟩ := H
     replace H : (some t309) = some r := H
     have A14 := am A140
     clear A140
     obtain rfl := Option.some.inj H
     go_wp2_with (first | ((with_reducible refine gate_callee (f := 98) rfl ?_); refine gl (some 84) rfl rfl Tryz.func98 rfl #[.int .u64 (IntKind.u64.wrap (t305 + t306)), .int .i64 0, .int .i64 (wrap64 (8 * t304))] rfl ?_; (with_reducible refine (postbagref01_Field.calls (IntKind.u64.wrap (t305 + t306)) 0 (wrap64 (8 * t304)) t309 _ A14.out).mono ?_); rintro e w' ⟨rfl, ⟨nd, rfl⟩⟩; refine ⟨_, rfl, ?_⟩))
     go_ret
     exact ⟨fe, bb HB⟩
    ·rw [if_neg c13] at H
     obtain ⟨c13b0, c13b1⟩ := bqf c13
     by_cases c15 : x13_10 = 70
     ·rw [if_pos c15] at H
      obtain ⟨c15b0, c15b1⟩ := bqt c15
      clear c15
      replace H := Option.bind_eq_some_iff.mp H
      obtain ⟨t310, A160, H⟩ := H
      replace H : (some t310) = some r := H
      have A16 := am A160
      clear A160
      obtain rfl := Option.some.inj H
      go_wp2_with (first | ((with_reducible refine gate_callee (f := 98) rfl ?_); refine gl (some 84) rfl rfl Tryz.func98 rfl #[.int .u64 (Go.bits .xor .u64 t305 t306), .int .i64 0, .int .i64 (wrap64 (8 * t304))] rfl ?_; (with_reducible refine (postbagref01_Field.calls (Go.bits .xor .u64 t305 t306) 0 (wrap64 (8 * t304)) t310 _ A16.out).mono ?_); rintro e w' ⟨rfl, ⟨nd, rfl⟩⟩; refine ⟨_, rfl, ?_⟩))
      go_ret
      exact ⟨fe, bb HB⟩
     ·rw [if_neg c15] at H
      obtain ⟨c15b0, c15b1⟩ := bqf c15
      by_cases c17 : x13_10 = 71
      ·rw [if_pos c17] at H
       obtain ⟨c17b0, c17b1⟩ := bqt c17
       clear c17
       replace H := Option.bind_eq_some_iff.mp H
       obtain ⟨t311, A180, H⟩ := H
       replace H : (some t311) = some r := H
       have A18 := am A180
       clear A180
       obtain rfl := Option.some.inj H
       go_wp2_with (first | ((with_reducible refine gate_callee (f := 98) rfl ?_); refine gl (some 84) rfl rfl Tryz.func98 rfl #[.int .u64 (Go.bits .and .u64 t305 t306), .int .i64 0, .int .i64 (wrap64 (8 * t304))] rfl ?_; (with_reducible refine (postbagref01_Field.calls (Go.bits .and .u64 t305 t306) 0 (wrap64 (8 * t304)) t311 _ A18.out).mono ?_); rintro e w' ⟨rfl, ⟨nd, rfl⟩⟩; refine ⟨_, rfl, ?_⟩))
       go_ret
       exact ⟨fe, bb HB⟩
      ·rw [if_neg c17] at H
       obtain ⟨c17b0, c17b1⟩ := bqf c17
       by_cases c19 : x13_10 = 72
       ·rw [if_pos c19] at H
        obtain ⟨c19b0, c19b1⟩ := bqt c19
        clear c19
        replace H := Option.bind_eq_some_iff.mp H
        obtain ⟨t312, A200, H⟩ := H
        replace H : (some t312) = some r := H
        have A20 := am A200
        clear A200
        obtain rfl := Option.some.inj H
        go_wp2_with (first | ((with_reducible refine gate_callee (f := 98) rfl ?_); refine gl (some 84) rfl rfl Tryz.func98 rfl #[.int .u64 (Go.bits .or .u64 t305 t306), .int .i64 0, .int .i64 (wrap64 (8 * t304))] rfl ?_; (with_reducible refine (postbagref01_Field.calls (Go.bits .or .u64 t305 t306) 0 (wrap64 (8 * t304)) t312 _ A20.out).mono ?_); rintro e w' ⟨rfl, ⟨nd, rfl⟩⟩; refine ⟨_, rfl, ?_⟩))
        go_ret
        exact ⟨fe, bb HB⟩
       ·rw [if_neg c19] at H
        obtain ⟨c19b0, c19b1⟩ := bqf c19
        by_cases c21 : x13_10 = 73
        ·rw [if_pos c21] at H
         obtain ⟨c21b0, c21b1⟩ := bqt c21
         clear c21
         obtain ⟨t313, A22, H⟩ := bam H
         try dsimp only at H
         by_cases c23 : t313 = true
         ·subst c23
          rw [if_pos rfl] at H
          replace H := Option.bind_eq_some_iff.mp H
          obtain ⟨t314, A240, H⟩ := H
          replace H : (some t314) = some r := H
          have A24 := am A240
          clear A240
          obtain rfl := Option.some.inj H
          go_wp2_with (first | ((with_reducible refine gate_callee (f := 73) rfl ?_); refine gl (some 64) rfl rfl Tryz.func73 rfl #[.int .u64 t305, .int .u64 t306] rfl ?_; (with_reducible refine (postbagref04_less.calls t305 t306 true _ A22.out).mono ?_); rintro e w' ⟨rfl, ⟨nd, rfl⟩⟩; refine ⟨_, rfl, ?_⟩) | ((with_reducible refine gate_callee (f := 98) rfl ?_); refine gl (some 84) rfl rfl Tryz.func98 rfl #[.int .u64 t305, .int .i64 0, .int .i64 (wrap64 (8 * t304))] rfl ?_; (with_reducible refine (postbagref01_Field.calls t305 0 (wrap64 (8 * t304)) t314 _ A24.out).mono ?_); rintro e w' ⟨rfl, ⟨nd, rfl⟩⟩; refine ⟨_, rfl, ?_⟩))
          go_ret
          exact ⟨fe, bb HB⟩
         ·replace c23 := Bool.eq_false_iff.mpr c23
          subst c23
          rw [if_neg ff] at H
          replace H := Option.bind_eq_some_iff.mp H
          obtain ⟨t315, A250, H⟩ := H
          replace H : (some t315) = some r := H
          have A25 := am A250
          clear A250
          obtain rfl := Option.some.inj H
          go_wp2_with (first | ((with_reducible refine gate_callee (f := 73) rfl ?_); refine gl (some 64) rfl rfl Tryz.func73 rfl #[.int .u64 t305, .int .u64 t306] rfl ?_; (with_reducible refine (postbagref04_less.calls t305 t306 false _ A22.out).mono ?_); rintro e w' ⟨rfl, ⟨nd, rfl⟩⟩; refine ⟨_, rfl, ?_⟩) | ((with_reducible refine gate_callee (f := 98) rfl ?_); refine gl (some 84) rfl rfl Tryz.func98 rfl #[.int .u64 t306, .int .i64 0, .int .i64 (wrap64 (8 * t304))] rfl ?_; (with_reducible refine (postbagref01_Field.calls t306 0 (wrap64 (8 * t304)) t315 _ A25.out).mono ?_); rintro e w' ⟨rfl, ⟨nd, rfl⟩⟩; refine ⟨_, rfl, ?_⟩))
          go_ret
          exact ⟨fe, bb HB⟩
        ·rw [if_neg c21] at H
         obtain ⟨c21b0, c21b1⟩ := bqf c21
         by_cases c26 : x13_10 = 74
         ·rw [if_pos c26] at H
          obtain ⟨c26b0, c26b1⟩ := bqt c26
          clear c26
          obtain ⟨t316, A27, H⟩ := bam H
          try dsimp only at H
          by_cases c28 : t316 = true
          ·subst c28
           rw [if_pos rfl] at H
           replace H := Option.bind_eq_some_iff.mp H
           obtain ⟨t317, A290, H⟩ := H
           replace H : (some t317) = some r := H
           have A29 := am A290
           clear A290
           obtain rfl := Option.some.inj H
           go_wp2_with (first | ((with_reducible refine gate_callee (f := 73) rfl ?_); refine gl (some 70) rfl rfl Tryz.func73 rfl #[.int .u64 t306, .int .u64 t305] rfl ?_; (with_reducible refine (postbagref04_less.calls t306 t305 true _ A27.out).mono ?_); rintro e w' ⟨rfl, ⟨nd, rfl⟩⟩; refine ⟨_, rfl, ?_⟩) | ((with_reducible refine gate_callee (f := 98) rfl ?_); refine gl (some 84) rfl rfl Tryz.func98 rfl #[.int .u64 t305, .int .i64 0, .int .i64 (wrap64 (8 * t304))] rfl ?_; (with_reducible refine (postbagref01_Field.calls t305 0 (wrap64 (8 * t304)) t317 _ A29.out).mono ?_); rintro e w' ⟨rfl, ⟨nd, rfl⟩⟩; refine ⟨_, rfl, ?_⟩))
           go_ret
           exact ⟨fe, bb HB⟩
          ·replace c28 := Bool.eq_false_iff.mpr c28
           subst c28
           rw [if_neg ff] at H
           replace H := Option.bind_eq_some_iff.mp H
           obtain ⟨t318, A300, H⟩ := H
           replace H : (some t318) = some r := H
           have A30 := am A300
           clear A300
           obtain rfl := Option.some.inj H
           go_wp2_with (first | ((with_reducible refine gate_callee (f := 73) rfl ?_); refine gl (some 70) rfl rfl Tryz.func73 rfl #[.int .u64 t306, .int .u64 t305] rfl ?_; (with_reducible refine (postbagref04_less.calls t306 t305 false _ A27.out).mono ?_); rintro e w' ⟨rfl, ⟨nd, rfl⟩⟩; refine ⟨_, rfl, ?_⟩) | ((with_reducible refine gate_callee (f := 98) rfl ?_); refine gl (some 84) rfl rfl Tryz.func98 rfl #[.int .u64 t306, .int .i64 0, .int .i64 (wrap64 (8 * t304))] rfl ?_; (with_reducible refine (postbagref01_Field.calls t306 0 (wrap64 (8 * t304)) t318 _ A30.out).mono ?_); rintro e w' ⟨rfl, ⟨nd, rfl⟩⟩; refine ⟨_, rfl, ?_⟩))
           go_ret
           exact ⟨fe, bb HB⟩
         ·rw [if_neg c26] at H
          obtain ⟨c26b0, c26b1⟩ := bqf c26
          by_cases c31 : x13_10 = 75
          ·rw [if_pos c31] at H
           obtain ⟨c31b0, c31b1⟩ := bqt c31
           clear c31
           obtain ⟨ji32, hji32⟩ : ∃ j_ : Int, (mn t307 t308) = j_ := ⟨_, rfl⟩
           replace H : ((postbagref01_Field.f (ji32) 0 (wrap64 (8 * t304))).bind fun t319 => (some t319)) = some r := by first | (rw [hji32] at H; exact H) | (simp only [hji32] at H ⊢; exact H)
           have hji32_ : (if t308 < t307 then t308 else t307) = ji32 := hji32
           replace H := Option.bind_eq_some_iff.mp H
           obtain ⟨t319, A330, H⟩ := H
           replace H : (some t319) = some r := H
           have A33 := am A330
           clear A330
           obtain rfl := Option.some.inj H
           go_wp2_with (first | ((with_reducible refine gate_callee (f := 98) rfl ?_); refine goesL_ (some 84) rfl rfl Tryz.func98 (by kernel_rfl) rfl #[.int .u64 ji32, .int .i64 0, .int .i64 (wrap64 (8 * t304))] rfl (by (try simp only [List.map_toArray, List.map_cons, List.map_nil]); first | done | (simp only [hji32]; rfl) | rfl | (simp only [List.length_drop, List.length_take]; rfl)) ?_; (with_reducible refine (postbagref01_Field.calls ji32 0 (wrap64 (8 * t304)) t319 _ A33.out).mono ?_); rintro e w' ⟨rfl, ⟨nd, rfl⟩⟩; refine ⟨_, rfl, ?_⟩))
           go_ret
           exact ⟨by first | rfl | (simp [errW_none, errW_some] <;> rfl) | (simp only [← hji32]; first | rfl | (simp [errW_none, errW_some] <;> rfl)) | (simp [*, errW_none, errW_some] <;> rfl), bb HB⟩
          ·rw [if_neg c31] at H
           obtain ⟨c31b0, c31b1⟩ := bqf c31
           by_cases c34 : x13_10 = 76
           ·rw [if_pos c34] at H
            obtain ⟨c34b0, c34b1⟩ := bqt c34
            clear c34
            obtain ⟨ji35, hji35⟩ : ∃ j_ : Int, (mx t307 t308) = j_ := ⟨_, rfl⟩
            replace H : ((postbagref01_Field.f (ji35) 0 (wrap64 (8 * t304))).bind fun t320 => (some t320)) = some r := by first | (rw [hji35] at H; exact H) | (simp only [hji35] at H ⊢; exact H)
            have hji35_ : (if t307 < t308 then t308 else t307) = ji35 := hji35
            replace H := Option.bind_eq_some_iff.mp H
            obtain ⟨t320, A360, H⟩ := H
            replace H : (some t320) = some r := H
            have A36 := am A360
            clear A360
            obtain rfl := Option.some.inj H
            go_wp2_with (first | ((with_reducible refine gate_callee (f := 98) rfl ?_); refine goesL_ (some 84) rfl rfl Tryz.func98 (by kernel_rfl) rfl #[.int .u64 ji35, .int .i64 0, .int .i64 (wrap64 (8 * t304))] rfl (by (try simp only [List.map_toArray, List.map_cons, List.map_nil]); first | done | (simp only [hji35]; rfl) | rfl | (simp only [List.length_drop, List.length_take]; rfl)) ?_; (with_reducible refine (postbagref01_Field.calls ji35 0 (wrap64 (8 * t304)) t320 _ A36.out).mono ?_); rintro e w' ⟨rfl, ⟨nd, rfl⟩⟩; refine ⟨_, rfl, ?_⟩))
            go_ret
            exact ⟨by first | rfl | (simp [errW_none, errW_some] <;> rfl) | (simp only [← hji35]; first | rfl | (simp [errW_none, errW_some] <;> rfl)) | (simp [*, errW_none, errW_some] <;> rfl), bb HB⟩
           ·rw [if_neg c34] at H
            obtain ⟨c34b0, c34b1⟩ := bqf c34
            replace H := Option.bind_eq_some_iff.mp H
            obtain ⟨t321, A370, H⟩ := H
            replace H : (some t321) = some r := H
            have A37 := am A370
            clear A370
            obtain rfl := Option.some.inj H
            go_wp2_with (first | ((with_reducible refine gate_callee (f := 98) rfl ?_); refine gl (some 84) rfl rfl Tryz.func98 rfl #[.int .u64 t306, .int .i64 0, .int .i64 (wrap64 (8 * t304))] rfl ?_; (with_reducible refine (postbagref01_Field.calls t306 0 (wrap64 (8 * t304)) t321 _ A37.out).mono ?_); rintro e w' ⟨rfl, ⟨nd, rfl⟩⟩; refine ⟨_, rfl, ?_⟩))
            go_ret
            exact ⟨fe, bb HB⟩
 ·replace c5 := Bool.eq_false_iff.mpr c5
  subst c5
  rw [if_neg ff] at H
  obtain rfl := Option.some.inj H
  go_enter Tryz.func64, Tryz.ntmps64
  go_wp2_with (first | ((with_reducible refine gate_callee (f := 66) rfl ?_); refine gl (some 15) rfl rfl Tryz.func66 rfl #[.int .i64 a0] rfl ?_; (with_reducible refine (postbagref02_Stores.calls a0 false _ A4.out).mono ?_); rintro e w' ⟨rfl, ⟨nd, rfl⟩⟩; refine ⟨_, rfl, ?_⟩))
  go_ret
  exact ⟨fe, bb HB⟩
def postbagref02_Loads0.f (a0 : Int) : Option (Bool) := if a0 ≥ 11 then (if a0 ≤ 17 then (some true) else ((postbagref02_Atomic.f a0).bind fun t322 => (if t322 = true then (if a0 = 67 then (some false) else (some (a0 != 78))) else (some false)))) else ((postbagref02_Atomic.f a0).bind fun t323 => (if t323 = true then (if a0 = 67 then (some false) else (some (a0 != 78))) else (some false)))
set_option maxHeartbeats 8000000 in
set_option maxRecDepth 100000 in
theorem postbagref02_Loads0.calls (a0 : Int) (r : Bool) (w : World) (h : postbagref02_Loads0.f a0 = some r) :
  Calls Tryz.prog 65 #[.int .i64 a0] w fun e w' => e = .returned (.bool r) ∧ Drawn0 w w' := by
 have H := h
 clear h
 unfold postbagref02_Loads0.f at H
 by_cases c2 : a0 ≥ 11
 ·rw [if_pos c2] at H
  have c2b0 : decide (11 ≤ a0) = true := decide_eq_true c2
  clear c2
  by_cases c3 : a0 ≤ 17
  ·rw [if_pos c3] at H
   have c3b0 : decide (a0 ≤ 17) = true := decide_eq_true c3
   clear c3
   obtain rfl := Option.some.inj H
   go_enter Tryz.func65, Tryz.ntmps65
   go_wp2
   go_ret
   exact fd
  ·rw [if_neg c3] at H
   have c3b0 : decide (a0 ≤ 17) = false := decide_eq_false c3
   clear c3
   obtain ⟨t322, A4, H⟩ := bam H
   try dsimp only at H
   by_cases c5 : t322 = true
   ·subst c5
    rw [if_pos rfl] at H
    by_cases c6 : a0 = 67
    ·rw [if_pos c6] at H
     obtain ⟨c6b0, c6b1⟩ := bqt c6
     clear c6
     obtain rfl := Option.some.inj H
     go_enter Tryz.func65, Tryz.ntmps65
     go_wp2_with (first | (go_at_call 62; (with_reducible refine (postbagref02_Atomic.calls a0 true _ A4.out).mono ?_); rintro e w' ⟨rfl, ⟨nd, rfl⟩⟩))
     go_ret
     exact fd
    ·rw [if_neg c6] at H
     obtain ⟨c6b0, c6b1⟩ := bqf c6
     obtain rfl := Option.some.inj H
     go_enter Tryz.func65, Tryz.ntmps65
     go_wp2_with (first | (go_at_call 62; (with_reducible refine (postbagref02_Atomic.calls a0 true _ A4.out).mono ?_); rintro e w' ⟨rfl, ⟨nd, rfl⟩⟩))
     go_ret
     exact fd
   ·replace c5 := Bool.eq_false_iff.mpr c5
    subst c5
    rw [if_neg ff] at H
    obtain rfl := Option.some.inj H
    go_enter Tryz.func65, Tryz.ntmps65
    go_wp2_with (first | (go_at_call 62; (with_reducible refine (postbagref02_Atomic.calls a0 false _ A4.out).mono ?_); rintro e w' ⟨rfl, ⟨nd, rfl⟩⟩))
    go_ret
    exact fd
 ·rw [if_neg c2] at H
  have c2b0 : decide (11 ≤ a0) = false := decide_eq_false c2
  clear c2
  obtain ⟨t323, A7, H⟩ := bam H
  try dsimp only at H
  by_cases c8 : t323 = true
  ·subst c8
   rw [if_pos rfl] at H
   by_cases c9 : a0 = 67
   ·rw [if_pos c9] at H
    obtain ⟨c9b0, c9b1⟩ := bqt c9
    clear c9
    obtain rfl := Option.some.inj H
    go_enter Tryz.func65, Tryz.ntmps65
    go_wp2_with (first | (go_at_call 62; (with_reducible refine (postbagref02_Atomic.calls a0 true _ A7.out).mono ?_); rintro e w' ⟨rfl, ⟨nd, rfl⟩⟩))
    go_ret
    exact fd
   ·rw [if_neg c9] at H
    obtain ⟨c9b0, c9b1⟩ := bqf c9
    obtain rfl := Option.some.inj H
    go_enter Tryz.func65, Tryz.ntmps65
    go_wp2_with (first | (go_at_call 62; (with_reducible refine (postbagref02_Atomic.calls a0 true _ A7.out).mono ?_); rintro e w' ⟨rfl, ⟨nd, rfl⟩⟩))
    go_ret
    exact fd
  ·replace c8 := Bool.eq_false_iff.mpr c8
   subst c8
   rw [if_neg ff] at H
   obtain rfl := Option.some.inj H
   go_enter Tryz.func65, Tryz.ntmps65
   go_wp2_with (first | (go_at_call 62; (with_reducible refine (postbagref02_Atomic.calls a0 false _ A7.out).mono ?_); rintro e w' ⟨rfl, ⟨nd, rfl⟩⟩))
   go_ret
   exact fd
def postbagref02_Loads.f (a0 : Int) : Option (Bool) := some (decide (11 ≤ a0 ∧ a0 ≤ 17 ∨ 66 ≤ a0 ∧ a0 ≤ 87 ∧ a0 ≠ 67 ∧ a0 ≠ 78))
theorem postbagref02_Loads.spec (a0 : Int) (r : Bool) (h : postbagref02_Loads.f a0 = some r) : postbagref02_Loads0.f a0 = some r := by
 rw [← h]; unfold postbagref02_Loads.f
 by_cases h1 : 11 ≤ a0 <;> by_cases h2 : a0 ≤ 17 <;> by_cases h3 : 66 ≤ a0 <;> by_cases h4 : a0 ≤ 87 <;> by_cases h5 : a0 = 67 <;> by_cases h6 : a0 = 78 <;> first | omega | (simp [postbagref02_Loads0.f, postbagref02_Atomic.f, *]; done) | (subst_vars; decide +kernel)
theorem postbagref02_Loads.calls (a0 : Int) (r : Bool) (w : World) (h : postbagref02_Loads.f a0 = some r) :
  Calls Tryz.prog 65 #[.int .i64 a0] w fun e w' => e = .returned (.bool r) ∧ Drawn0 w w' := by
 have hk := postbagref02_Loads.spec a0 r h
 exact postbagref02_Loads0.calls a0 r w hk
mutual
def postbagref04_Loaded.j0 : Nat → Int → Int → Bool → Option (Int)
 | 0, _, _, _ => none
 | k + 1, x0, x1, x21 => if x21 = true then (some 0) else ((postbagref02_Size.f x0).bind fun t326 => (if x0 ≥ 15 then (postbagref04_Loaded.j1 k x1 (wrap64 (8 * t326)) (decide (x0 ≤ 17))) else (postbagref04_Loaded.j1 k x1 (wrap64 (8 * t326)) false)))
def postbagref04_Loaded.j1 : Nat → Int → Int → Bool → Option (Int)
 | 0, _, _, _ => none
 | k + 1, x1, x5, x30 => if x30 = true then ((postbagref01_Field.f x1 0 x5).bind fun t327 => (some t327)) else ((postbagref01_Sign.f x1 x5).bind fun t328 => (some t328))
end
def postbagref04_Loaded.f (k : Nat) (a0 : Int) (a1 : Int) : Option (Int) := (postbagref02_Loads.f a0).bind fun t324 => (if t324 = true then (if a0 = 67 then (postbagref04_Loaded.j0 k a0 a1 true) else (postbagref04_Loaded.j0 k a0 a1 (a0 == 78))) else ((postbagref02_Atomic.f a0).bind fun t325 => (if t325 = true then (if a0 = 67 then (postbagref04_Loaded.j0 k a0 a1 true) else (postbagref04_Loaded.j0 k a0 a1 (a0 == 78))) else (postbagref04_Loaded.j0 k a0 a1 true))))
theorem postbagref04_Loaded.mono_l : ∀ k, (∀ y0 y1 y2, LeO (postbagref04_Loaded.j0 k y0 y1 y2) (postbagref04_Loaded.j0 (k + 1) y0 y1 y2)) ∧ (∀ y0 y1 y2, LeO (postbagref04_Loaded.j1 k y0 y1 y2) (postbagref04_Loaded.j1 (k + 1) y0 y1 y2))
 | 0 => ⟨fun _ _ _ r h => by simp [postbagref04_Loaded.j0] at h, fun _ _ _ r h => by simp [postbagref04_Loaded.j1] at h⟩
 | k + 1 => by
  obtain ⟨ih0, ih1⟩ := postbagref04_Loaded.mono_l k
  refine ⟨?_, ?_⟩
  ·intro y0 y1 y2
   unfold postbagref04_Loaded.j0
   exact leo
  ·intro y0 y1 y2
   unfold postbagref04_Loaded.j1
   exact leo
theorem postbagref04_Loaded.mono : ∀ a0 a1 k, LeO (postbagref04_Loaded.f k a0 a1) (postbagref04_Loaded.f (k + 1) a0 a1) := by
 intro a0 a1 k
 obtain ⟨ih0, ih1⟩ := postbagref04_Loaded.mono_l k
 unfold postbagref04_Loaded.f
 exact leo
set_option maxHeartbeats 8000000 in
set_option maxRecDepth 100000 in
theorem postbagref04_Loaded.calls (k : Nat) (a0 : Int) (a1 : Int) (r : Int) (w : World) (h : postbagref04_Loaded.f k a0 a1 = some r) :
  Calls Tryz.prog 67 #[.int .i64 a0, .int .u64 a1] w fun e w' => e = .returned (.int .u64 r) ∧ Drawn0 w w' := by
 have H := h
 clear h
 unfold postbagref04_Loaded.f at H
 have HC3 := am H
 clear H
 go_enter Tryz.func67, Tryz.ntmps67
 go_upto_region 1 with (fail)
 go_cut [21] (fun v21 wc => ∃ (kq : Nat) (x21_2 : Bool), v21 = .bool x21_2 ∧ Aside0 (postbagref04_Loaded.j0 kq a0 a1 x21_2 = some r) ∧ Aside0 (kq ≤ k) ∧ Drawn0 w wc)
 case first =>
  have H := HC3.out
  clear HC3
  obtain ⟨t324, A4, H⟩ := bam H
  try dsimp only at H
  by_cases c5 : t324 = true
  ·subst c5
   rw [if_pos rfl] at H
   by_cases c6 : a0 = 67
   ·rw [if_pos c6] at H
    obtain ⟨c6b0, c6b1⟩ := bqt c6
    clear c6
    (first | rw [c6b0] | (simp only [i64_w, i32_w]; rw [c6b0]) | skip)
    have H' := am H
    clear H
    go_wp2_with (first | ((with_reducible refine gate_callee (f := 65) rfl ?_); refine gl (some 7) rfl rfl Tryz.func65 rfl #[.int .i64 a0] rfl ?_; (with_reducible refine (postbagref02_Loads.calls a0 true _ A4.out).mono ?_); rintro e w' ⟨rfl, ⟨nd, rfl⟩⟩; refine ⟨_, rfl, ?_⟩))
    go_meet
    case rel => exact ⟨_, (true), fr, H', ⟨om⟩, dd⟩
   ·rw [if_neg c6] at H
    obtain ⟨c6b0, c6b1⟩ := bqf c6
    (first | rw [c6b0] | (simp only [i64_w, i32_w]; rw [c6b0]) | skip)
    have H' := am H
    clear H
    go_wp2_with (first | ((with_reducible refine gate_callee (f := 65) rfl ?_); refine gl (some 7) rfl rfl Tryz.func65 rfl #[.int .i64 a0] rfl ?_; (with_reducible refine (postbagref02_Loads.calls a0 true _ A4.out).mono ?_); rintro e w' ⟨rfl, ⟨nd, rfl⟩⟩; refine ⟨_, rfl, ?_⟩))
    go_meet
    case rel => exact ⟨_, ((a0 == 78)), fr, H', ⟨om⟩, dd⟩
  ·replace c5 := Bool.eq_false_iff.mpr c5
   subst c5
   rw [if_neg ff] at H
   obtain ⟨t325, A7, H⟩ := bam H
   try dsimp only at H
   by_cases c8 : t325 = true
   ·subst c8
    rw [if_pos rfl] at H
    by_cases c9 : a0 = 67
    ·rw [if_pos c9] at H
     obtain ⟨c9b0, c9b1⟩ := bqt c9
     clear c9
     have H' := am H
     clear H
     go_wp2_with (first | ((with_reducible refine gate_callee (f := 65) rfl ?_); refine gl (some 7) rfl rfl Tryz.func65 rfl #[.int .i64 a0] rfl ?_; (with_reducible refine (postbagref02_Loads.calls a0 false _ A4.out).mono ?_); rintro e w' ⟨rfl, ⟨nd, rfl⟩⟩; refine ⟨_, rfl, ?_⟩) | (go_at_call 62; (with_reducible refine (postbagref02_Atomic.calls a0 true _ A7.out).mono ?_); rintro e w' ⟨rfl, ⟨nd, rfl⟩⟩))
     go_meet
     case rel => exact ⟨_, (true), fr, H', ⟨om⟩, dd⟩
    ·rw [if_neg c9] at H
     obtain ⟨c9b0, c9b1⟩ := bqf c9
     have H' := am H
     clear H
     go_wp2_with (first | ((with_reducible refine gate_callee (f := 65) rfl ?_); refine gl (some 7) rfl rfl Tryz.func65 rfl #[.int .i64 a0] rfl ?_; (with_reducible refine (postbagref02_Loads.calls a0 false _ A4.out).mono ?_); rintro e w' ⟨rfl, ⟨nd, rfl⟩⟩; refine ⟨_, rfl, ?_⟩) | (go_at_call 62; (with_reducible refine (postbagref02_Atomic.calls a0 true _ A7.out).mono ?_); rintro e w' ⟨rfl, ⟨nd, rfl⟩⟩))
     go_meet
     case rel => exact ⟨_, ((a0 == 78)), fr, H', ⟨om⟩, dd⟩
   ·replace c8 := Bool.eq_false_iff.mpr c8
    subst c8
    rw [if_neg ff] at H
    have H' := am H
    clear H
    go_wp2_with (first | ((with_reducible refine gate_callee (f := 65) rfl ?_); refine gl (some 7) rfl rfl Tryz.func65 rfl #[.int .i64 a0] rfl ?_; (with_reducible refine (postbagref02_Loads.calls a0 false _ A4.out).mono ?_); rintro e w' ⟨rfl, ⟨nd, rfl⟩⟩; refine ⟨_, rfl, ?_⟩) | (go_at_call 62; (with_reducible refine (postbagref02_Atomic.calls a0 false _ A7.out).mono ?_); rintro e w' ⟨rfl, ⟨nd, rfl⟩⟩))
    go_meet
    case rel => exact ⟨_, (true), fr, H', ⟨om⟩, dd⟩
 case rest =>
  clear HC3
  try clear p2
  try clear c5
  try clear c6
  try clear c6b0
  try clear c6b1
  try clear c8
  try clear c9
  try clear c9b0
  try clear c9b1
  obtain ⟨kq, x21_2, rfl, HA, HJ2, ⟨mc2, rfl⟩⟩ := hcut
  cases kq with
  | zero => exact absurd HA.out (by simp [postbagref04_Loaded.j0])
  | succ kj2 =>
   have H := HA.out
   clear HA
   simp only [postbagref04_Loaded.j0] at H
   by_cases c10 : x21_2 = true
   ·subst c10
    rw [if_pos rfl] at H
    obtain rfl := Option.some.inj H
    go_wp2
    go_ret
    exact fd
   ·replace c10 := Bool.eq_false_iff.mpr c10
    subst c10
    rw [if_neg ff] at H
    obtain ⟨t326, A11, H⟩ := bam H
    try dsimp only at H
    have HC12 := am H
    clear H
    go_upto_region 4 with (first | ((with_reducible refine gate_callee (f := 34) rfl ?_); refine gl (some 23) rfl rfl Tryz.func34 rfl #[.int .i64 a0] rfl ?_; (with_reducible refine (postbagref02_Size.calls a0 t326 _ A11.out).mono ?_); rintro e w' ⟨rfl, ⟨nd, rfl⟩⟩; refine ⟨_, rfl, ?_⟩))
    (try simp only [Act.put, List.setIfInBounds_toArray, List.set_cons_zero, List.set_cons_succ])
    go_cut [30] (fun v30 wc => ∃ (kq : Nat) (x30_11 : Bool), v30 = .bool x30_11 ∧ Aside0 (postbagref04_Loaded.j1 kq a1 (wrap64 (8 * t326)) x30_11 = some r) ∧ Aside0 (kq ≤ kj2) ∧ Drawn0 w wc)
    case first =>
     have H := HC12.out
     clear HC12
     by_cases c13 : a0 ≥ 15
     ·rw [if_pos c13] at H
      have c13b0 : decide (15 ≤ a0) = true := decide_eq_true c13
      clear c13
      (first | rw [c13b0] | (simp only [i64_w, i32_w]; rw [c13b0]) | skip)
      have H' := am H
      clear H
      go_wp2
      go_meet
      case rel => exact ⟨_, (decide (a0 ≤ 17)), fr, H', ⟨by have := HJ2.out; first | omega | exact Nat.le_refl _⟩, dd⟩
     ·rw [if_neg c13] at H
      have c13b0 : decide (15 ≤ a0) = false := decide_eq_false c13
      clear c13
      (first | rw [c13b0] | (simp only [i64_w, i32_w]; rw [c13b0]) | skip)
      have H' := am H
      clear H
      go_wp2
      go_meet
      case rel => exact ⟨_, (false), fr, H', ⟨by have := HJ2.out; first | omega | exact Nat.le_refl _⟩, dd⟩
    case rest =>
     clear HC12
     try clear c1
     try clear c2
     try clear p2
     try clear c3
     try clear c5
     try clear c6
     try clear c6b0
     try clear c6b1
     try clear p6
     try clear c8
     try clear c9
     try clear c9b0
     try clear c9b1
     try clear c10
     try clear c13
     try clear c13b0
     try clear p2
     obtain ⟨kq, x30_11, rfl, HA, HJ11, ⟨mc11, rfl⟩⟩ := hcut
     cases kq with
     | zero => exact absurd HA.out (by simp [postbagref04_Loaded.j1])
     | succ kj11 =>
      have H := HA.out
      clear HA
      simp only [postbagref04_Loaded.j1] at H
      by_cases c14 : x30_11 = true
      ·subst c14
       rw [if_pos rfl] at H
       replace H := Option.bind_eq_some_iff.mp H
       obtain ⟨t327, A150, H⟩ := H
       replace H : (some t327) = some r := H
       have A15 := am A150
       clear A150
       obtain rfl := Option.some.inj H
       go_wp2_with (first | ((with_reducible refine gate_callee (f := 98) rfl ?_); refine gl (some 33) rfl rfl Tryz.func98 rfl #[.int .u64 a1, .int .i64 0, .int .i64 (wrap64 (8 * t326))] rfl ?_; (with_reducible refine (postbagref01_Field.calls a1 0 (wrap64 (8 * t326)) t327 _ A15.out).mono ?_); rintro e w' ⟨rfl, ⟨nd, rfl⟩⟩; refine ⟨_, rfl, ?_⟩))
       go_ret
       exact fd
      ·replace c14 := Bool.eq_false_iff.mpr c14
       subst c14
       rw [if_neg ff] at H
       replace H := Option.bind_eq_some_iff.mp H
       obtain ⟨t328, A160, H⟩ := H
       replace H : (some t328) = some r := H
       have A16 := am A160
       clear A160
       obtain rfl := Option.some.inj H
       go_wp2_with (first | ((with_reducible refine gate_callee (f := 97) rfl ?_); refine gl (some 36) rfl rfl Tryz.func97 rfl #[.int .u64 a1, .int .i64 (wrap64 (8 * t326))] rfl ?_; (with_reducible refine (postbagref01_Sign.calls a1 (wrap64 (8 * t326)) t328 _ A16.out).mono ?_); rintro e w' ⟨rfl, ⟨nd, rfl⟩⟩; refine ⟨_, rfl, ?_⟩))
       go_ret
       exact fd
-- NOT PRINTED: function 35 (postbagref06_touch)
def postbagref04_left.l0 : Nat → Int → Int → Int → Option (Int)
 | 0, _, _, _ => none
 | k + 1, x0, x1, x5 => if x5 < x1 then (postbagref04_left.l0 k (IntKind.u64.wrap (x0 + x0)) x1 (wrap64 (x5 + 1))) else (some x0)
def postbagref04_left.f (k : Nat) (a0 : Int) (a1 : Int) : Option (Int) := postbagref04_left.l0 k a0 a1 0
theorem postbagref04_left.mono_l : ∀ k, (∀ y0 y1 y2, LeO (postbagref04_left.l0 k y0 y1 y2) (postbagref04_left.l0 (k + 1) y0 y1 y2))
 | 0 => fun _ _ _ r h => by simp [postbagref04_left.l0] at h
 | k + 1 => by
  have ih0 := postbagref04_left.mono_l k
  ·intro y0 y1 y2
   unfold postbagref04_left.l0
   exact leo
theorem postbagref04_left.mono : ∀ a0 a1 k, LeO (postbagref04_left.f k a0 a1) (postbagref04_left.f (k + 1) a0 a1) := by
 intro a0 a1 k
 have ih0 := postbagref04_left.mono_l k
 unfold postbagref04_left.f
 exact leo
set_option maxHeartbeats 8000000 in
set_option maxRecDepth 100000 in
theorem postbagref04_left.calls (k : Nat) (a0 : Int) (a1 : Int) (r : Int) (w : World) (h : postbagref04_left.f k a0 a1 = some r) :
  Calls Tryz.prog 101 #[.int .u64 a0, .int .i64 a1] w fun e w' => e = .returned (.int .u64 r) ∧ Drawn0 w w' := by
 have H : (postbagref04_left.l0 k a0 a1 0) = some r := h
 clear h
 have H' := am H
 clear H
 go_enter Tryz.func101, Tryz.ntmps101
 go_wp2
 go_loopg [0, 5] k (fun kq v0 v5 w' => ∃ (x0_1 : Int) (x5_1 : Int), v0 = .int .u64 x0_1 ∧ v5 = .int .i64 x5_1 ∧ Aside0 (postbagref04_left.l0 kq x0_1 a1 x5_1 = some r) ∧ Aside0 (kq ≤ k) ∧ Drawn0 w w')
 case atStart => exact ⟨(a0), (0), fr, fr, H', ⟨Nat.le_refl _⟩, dd⟩
 case round =>
  clear H'
  try clear c1
  try clear p2
  obtain ⟨x0_1, x5_1, rfl, rfl, HA, HK1, ⟨m1, rfl⟩⟩ := hrel
  cases gk with
  | zero => exact absurd HA.out (by simp [postbagref04_left.l0])
  | succ k1 =>
   have H := HA.out
   clear HA
   simp only [postbagref04_left.l0] at H
   by_cases c3 : x5_1 < a1
   ·rw [if_pos c3] at H
    have c3b0 : decide (x5_1 < a1) = true := decide_eq_true c3
    clear c3
    have H' := am H
    clear H
    go_wp2
    go_roundg k1
    case measure => have := HK1.out; omega
    case rel => exact ⟨(IntKind.u64.wrap (x0_1 + x0_1)), (wrap64 (x5_1 + 1)), fr, fr, H', ⟨by have := HK1.out; omega⟩, dd⟩
   ·rw [if_neg c3] at H
    have c3b0 : decide (x5_1 < a1) = false := decide_eq_false c3
    clear c3
    obtain rfl := Option.some.inj H
    go_wp2
    go_ret
    exact fd
def postbagref04_right.l0 : Nat → Int → Int → Int → Int → Option (Int)
 | 0, _, _, _, _ => none
 | k + 1, x0, x1, x2, x7 => if x7 < x1 then ((postbagref01_Place.f (IntKind.u64.wrap (Int.tdiv x0 2)) 63 1 x2).bind fun t329 => (postbagref04_right.l0 k t329 x1 x2 (wrap64 (x7 + 1)))) else (some x0)
def postbagref04_right.f (k : Nat) (a0 : Int) (a1 : Int) (a2 : Int) : Option (Int) := postbagref04_right.l0 k a0 a1 a2 0
theorem postbagref04_right.mono_l : ∀ k, (∀ y0 y1 y2 y3, LeO (postbagref04_right.l0 k y0 y1 y2 y3) (postbagref04_right.l0 (k + 1) y0 y1 y2 y3))
 | 0 => fun _ _ _ _ r h => by simp [postbagref04_right.l0] at h
 | k + 1 => by
  have ih0 := postbagref04_right.mono_l k
  ·intro y0 y1 y2 y3
   unfold postbagref04_right.l0
   exact leo
theorem postbagref04_right.mono : ∀ a0 a1 a2 k, LeO (postbagref04_right.f k a0 a1 a2) (postbagref04_right.f (k + 1) a0 a1 a2) := by
 intro a0 a1 a2 k
 have ih0 := postbagref04_right.mono_l k
 unfold postbagref04_right.f
 exact leo
set_option maxHeartbeats 8000000 in
set_option maxRecDepth 100000 in
theorem postbagref04_right.calls (k : Nat) (a0 : Int) (a1 : Int) (a2 : Int) (r : Int) (w : World) (h : postbagref04_right.f k a0 a1 a2 = some r) :
  Calls Tryz.prog 102 #[.int .u64 a0, .int .i64 a1, .int .u64 a2] w fun e w' => e = .returned (.int .u64 r) ∧ Drawn0 w w' := by
 have H : (postbagref04_right.l0 k a0 a1 a2 0) = some r := h
 clear h
 have H' := am H
 clear H
 go_enter Tryz.func102, Tryz.ntmps102
 go_wp2
 go_loopg [0, 7] k (fun kq v0 v7 w' => ∃ (x0_1 : Int) (x7_1 : Int), v0 = .int .u64 x0_1 ∧ v7 = .int .i64 x7_1 ∧ Aside0 (postbagref04_right.l0 kq x0_1 a1 a2 x7_1 = some r) ∧ Aside0 (kq ≤ k) ∧ Drawn0 w w')
 case atStart => exact ⟨(a0), (0), fr, fr, H', ⟨Nat.le_refl _⟩, dd⟩
 case round =>
  clear H'
  try clear c1
  try clear p2
  obtain ⟨x0_1, x7_1, rfl, rfl, HA, HK1, ⟨m1, rfl⟩⟩ := hrel
  cases gk with
  | zero => exact absurd HA.out (by simp [postbagref04_right.l0])
  | succ k1 =>
   have H := HA.out
   clear HA
   simp only [postbagref04_right.l0] at H
   by_cases c4 : x7_1 < a1
   ·rw [if_pos c4] at H
    have c4b0 : decide (x7_1 < a1) = true := decide_eq_true c4
    clear c4
    obtain ⟨t329, A5, H⟩ := bam H
    try dsimp only at H
    have H' := am H
    clear H
    go_wp2_with (first | ((with_reducible refine gate_callee (f := 74) rfl ?_); refine gl (some 16) rfl rfl Tryz.func74 rfl #[.int .u64 (IntKind.u64.wrap (Int.tdiv x0_1 2)), .int .i64 63, .int .i64 1, .int .u64 a2] rfl ?_; (with_reducible refine (postbagref01_Place.calls (IntKind.u64.wrap (Int.tdiv x0_1 2)) 63 1 a2 t329 _ A5.out).mono ?_); rintro e w' ⟨rfl, ⟨nd, rfl⟩⟩; refine ⟨_, rfl, ?_⟩))
    go_roundg k1
    case measure => have := HK1.out; omega
    case rel => exact ⟨(t329), (wrap64 (x7_1 + 1)), fr, fr, H', ⟨by have := HK1.out; omega⟩, dd⟩
   ·rw [if_neg c4] at H
    have c4b0 : decide (x7_1 < a1) = false := decide_eq_false c4
    clear c4
    obtain rfl := Option.some.inj H
    go_wp2
    go_ret
    exact fd
def postbagref04_one.f (a0 : Bool) : Option (Int) := if a0 = true then (some 1) else (some 0)
set_option maxHeartbeats 8000000 in
set_option maxRecDepth 100000 in
theorem postbagref04_one.calls (a0 : Bool) (r : Int) (w : World) (h : postbagref04_one.f a0 = some r) :
  Calls Tryz.prog 104 #[.bool a0] w fun e w' => e = .returned (.int .u64 r) ∧ Drawn0 w w' := by
 have H := h
 clear h
 unfold postbagref04_one.f at H
 by_cases c2 : a0 = true
 ·subst c2
  rw [if_pos rfl] at H
  obtain rfl := Option.some.inj H
  go_enter Tryz.func104, Tryz.ntmps104
  go_wp2
  go_ret
  exact fd
 ·replace c2 := Bool.eq_false_iff.mpr c2
  subst c2
  rw [if_neg ff] at H
  obtain rfl := Option.some.inj H
  go_enter Tryz.func104, Tryz.ntmps104
  go_wp2
  go_ret
  exact fd
mutual
def postbagref04_plain.j0 : Nat → Int → Int → Int → Int → Bool → Option (Int × Bool)
 | 0, _, _, _, _, _ => none
 | k + 1, x1, x2, x8, x12, x13 => if x13 = true then (some (IntKind.u64.wrap (x1 + x2), true)) else (if x12 = 32 then (some (IntKind.u64.wrap (x1 - x2), true)) else (if x12 = 33 then (postbagref04_plain.j1 k x1 x2 x8 x12 (x12 == 33)) else (postbagref04_plain.j1 k x1 x2 x8 x12 (x12 == 28))))
def postbagref04_plain.j1 : Nat → Int → Int → Int → Int → Bool → Option (Int × Bool)
 | 0, _, _, _, _, _ => none
 | k + 1, x1, x2, x8, x12, x24 => if x24 = true then ((postbagref04_left.f k x1 x8).bind fun t331 => (some (t331, true))) else (if x12 = 37 then (postbagref04_plain.j2 k x1 x2 x8 x12 (x12 == 37)) else (postbagref04_plain.j2 k x1 x2 x8 x12 (x12 == 29)))
def postbagref04_plain.j2 : Nat → Int → Int → Int → Int → Bool → Option (Int × Bool)
 | 0, _, _, _, _, _ => none
 | k + 1, x1, x2, x8, x12, x30 => if x30 = true then ((postbagref04_right.f k x1 x8 0).bind fun t332 => (some (t332, true))) else (if x12 = 38 then (postbagref04_plain.j3 k x1 x2 x8 x12 (x12 == 38)) else (postbagref04_plain.j3 k x1 x2 x8 x12 (x12 == 30)))
def postbagref04_plain.j3 : Nat → Int → Int → Int → Int → Bool → Option (Int × Bool)
 | 0, _, _, _, _, _ => none
 | k + 1, x1, x2, x8, x12, x36 => if x36 = true then ((postbagref01_Bit.f x1 63).bind fun t333 => ((postbagref04_right.f k x1 x8 t333).bind fun t334 => (some (t334, true)))) else (if x12 = 34 then (postbagref04_plain.j4 k x1 x2 x12 (x12 == 34)) else (postbagref04_plain.j4 k x1 x2 x12 (x12 == 23)))
def postbagref04_plain.j4 : Nat → Int → Int → Int → Bool → Option (Int × Bool)
 | 0, _, _, _, _ => none
 | k + 1, x1, x2, x12, x44 => if x44 = true then ((postbagref04_less.f x1 x2).bind fun t335 => ((postbagref04_one.f t335).bind fun t336 => (some (t336, true)))) else (if x12 = 35 then (postbagref04_plain.j5 k x1 x2 x12 (x12 == 35)) else (postbagref04_plain.j5 k x1 x2 x12 (x12 == 24)))
def postbagref04_plain.j5 : Nat → Int → Int → Int → Bool → Option (Int × Bool)
 | 0, _, _, _, _ => none
 | k + 1, x1, x2, x12, x51 => if x51 = true then ((postbagref04_one.f (decide (x1 < x2))).bind fun t337 => (some (t337, true))) else (if x12 = 36 then (postbagref04_plain.j6 k x1 x2 x12 (x12 == 36)) else (postbagref04_plain.j6 k x1 x2 x12 (x12 == 25)))
def postbagref04_plain.j6 : Nat → Int → Int → Int → Bool → Option (Int × Bool)
 | 0, _, _, _, _ => none
 | k + 1, x1, x2, x12, x58 => if x58 = true then (some (Go.bits .xor .u64 x1 x2, true)) else (if x12 = 39 then (postbagref04_plain.j7 k x1 x2 x12 (x12 == 39)) else (postbagref04_plain.j7 k x1 x2 x12 (x12 == 26)))
def postbagref04_plain.j7 : Nat → Int → Int → Int → Bool → Option (Int × Bool)
 | 0, _, _, _, _ => none
 | k + 1, x1, x2, x12, x64 => if x64 = true then (some (Go.bits .or .u64 x1 x2, true)) else (if x12 = 40 then (some (Go.bits .and .u64 x1 x2, true)) else (if x12 = 27 then (some (Go.bits .and .u64 x1 x2, true)) else (some (0, false))))
end
def postbagref04_plain.f (k : Nat) (a0 : Int) (a1 : Int) (a2 : Int) : Option (Int × Bool) := (postbagref01_Field.f a2 0 6).bind fun t330 => (if a0 = 31 then (postbagref04_plain.j0 k a1 a2 (wrap64 (t330)) a0 (a0 == 31)) else (postbagref04_plain.j0 k a1 a2 (wrap64 (t330)) a0 (a0 == 22)))
theorem postbagref04_plain.mono_l : ∀ k, (∀ y0 y1 y2 y3 y4, LeO (postbagref04_plain.j0 k y0 y1 y2 y3 y4) (postbagref04_plain.j0 (k + 1) y0 y1 y2 y3 y4)) ∧ (∀ y0 y1 y2 y3 y4, LeO (postbagref04_plain.j1 k y0 y1 y2 y3 y4) (postbagref04_plain.j1 (k + 1) y0 y1 y2 y3 y4)) ∧ (∀ y0 y1 y2 y3 y4, LeO (postbagref04_plain.j2 k y0 y1 y2 y3 y4) (postbagref04_plain.j2 (k + 1) y0 y1 y2 y3 y4)) ∧ (∀ y0 y1 y2 y3 y4, LeO (postbagref04_plain.j3 k y0 y1 y2 y3 y4) (postbagref04_plain.j3 (k + 1) y0 y1 y2 y3 y4)) ∧ (∀ y0 y1 y2 y3, LeO (postbagref04_plain.j4 k y0 y1 y2 y3) (postbagref04_plain.j4 (k + 1) y0 y1 y2 y3)) ∧ (∀ y0 y1 y2 y3, LeO (postbagref04_plain.j5 k y0 y1 y2 y3) (postbagref04_plain.j5 (k + 1) y0 y1 y2 y3)) ∧ (∀ y0 y1 y2 y3, LeO (postbagref04_plain.j6 k y0 y1 y2 y3) (postbagref04_plain.j6 (k + 1) y0 y1 y2 y3)) ∧ (∀ y0 y1 y2 y3, LeO (postbagref04_plain.j7 k y0 y1 y2 y3) (postbagref04_plain.j7 (k + 1) y0 y1 y2 y3))
 | 0 => ⟨fun _ _ _ _ _ r h => by simp [postbagref04_plain.j0] at h, fun _ _ _ _ _ r h => by simp [postbagref04_plain.j1] at h, fun _ _ _ _ _ r h => by simp [postbagref04_plain.j2] at h, fun _ _ _ _ _ r h => by simp [postbagref04_plain.j3] at h, fun _ _ _ _ r h => by simp [postbagref04_plain.j4] at h, fun _ _ _ _ r h => by simp [postbagref04_plain.j5] at h, fun _ _ _ _ r h => by simp [postbagref04_plain.j6] at h, fun _ _ _ _ r h => by simp [postbagref04_plain.j7] at h⟩
 | k + 1 => by
  obtain ⟨ih0, ih1, ih2, ih3, ih4, ih5, ih6, ih7⟩ := postbagref04_plain.mono_l k
  refine ⟨?_, ?_, ?_, ?_, ?_, ?_, ?_, ?_⟩
  ·intro y0 y1 y2 y3 y4
   unfold postbagref04_plain.j0
   repeat' first
   | (with_reducible exact ih0 _ _ _ _ _)
   | (with_reducible exact ih1 _ _ _ _ _)
   | (with_reducible exact ih2 _ _ _ _ _)
   | (with_reducible exact ih3 _ _ _ _ _)
   | (with_reducible exact ih4 _ _ _ _)
   | (with_reducible exact ih5 _ _ _ _)
   | (with_reducible exact ih6 _ _ _ _)
   | (with_reducible exact ih7 _ _ _ _)
   | (with_reducible exact postbagref04_left.mono _ _ _)
   | (with_reducible exact postbagref04_right.mono _ _ _ _)
   | (with_reducible exact LeO.refl _)
   | (with_reducible exact LeO.none _)
   | (with_reducible refine LeO.ite ?_ ?_)
   | (with_reducible refine LeO.bind ?_ (fun _ => ?_))
   | exact ih0 _ _ _ _ _
   | exact ih1 _ _ _ _ _
   | exact ih2 _ _ _ _ _
   | exact ih3 _ _ _ _ _
   | exact ih4 _ _ _ _
   | exact ih5 _ _ _ _
   | exact ih6 _ _ _ _
   | exact ih7 _ _ _ _
   | exact postbagref04_left.mono _ _ _
   | exact postbagref04_right.mono _ _ _ _
   | exact LeO.none _
   | refine LeO.ite ?_ ?_
   | refine LeO.bind ?_ (fun _ => ?_)
  ·intro y0 y1 y2 y3 y4
   unfold postbagref04_plain.j1
   repeat' first
   | (with_reducible exact ih0 _ _ _ _ _)
   | (with_reducible exact ih1 _ _ _ _ _)
   | (with_reducible exact ih2 _ _ _ _ _)
   | (with_reducible exact ih3 _ _ _ _ _)
   | (with_reducible exact ih4 _ _ _ _)
   | (with_reducible exact ih5 _ _ _ _)
   | (with_reducible exact ih6 _ _ _ _)
   | (with_reducible exact ih7 _ _ _ _)
   | (with_reducible exact postbagref04_left.mono _ _ _)
   | (with_reducible exact postbagref04_right.mono _ _ _ _)
   | (with_reducible exact LeO.refl _)
   | (with_reducible exact LeO.none _)
   | (with_reducible refine LeO.ite ?_ ?_)
   | (with_reducible refine LeO.bind ?_ (fun _ => ?_))
   | exact ih0 _ _ _ _ _
   | exact ih1 _ _ _ _ _
   | exact ih2 _ _ _ _ _
   | exact ih3 _ _ _ _ _
   | exact ih4 _ _ _ _
   | exact ih5 _ _ _ _
   | exact ih6 _ _ _ _
   | exact ih7 _ _ _ _
   | exact postbagref04_left.mono _ _ _
   | exact postbagref04_right.mono _ _ _ _
   | exact LeO.none _
   | refine LeO.ite ?_ ?_
   | refine LeO.bind ?_ (fun _ => ?_)
  ·intro y0 y1 y2 y3 y4
   unfold postbagref04_plain.j2
   repeat' first
   | (with_reducible exact ih0 _ _ _ _ _)
   | (with_reducible exact ih1 _ _ _ _ _)
   | (with_reducible exact ih2 _ _ _ _ _)
   | (with_reducible exact ih3 _ _ _ _ _)
   | (with_reducible exact ih4 _ _ _ _)
   | (with_reducible exact ih5 _ _ _ _)
   | (with_reducible exact ih6 _ _ _ _)
   | (with_reducible exact ih7 _ _ _ _)
   | (with_reducible exact postbagref04_left.mono _ _ _)
   | (with_reducible exact postbagref04_right.mono _ _ _ _)
   | (with_reducible exact LeO.refl _)
   | (with_reducible exact LeO.none _)
   | (with_reducible refine LeO.ite ?_ ?_)
   | (with_reducible refine LeO.bind ?_ (fun _ => ?_))
   | exact ih0 _ _ _ _ _
   | exact ih1 _ _ _ _ _
   | exact ih2 _ _ _ _ _
   | exact ih3 _ _ _ _ _
   | exact ih4 _ _ _ _
   | exact ih5 _ _ _ _
   | exact ih6 _ _ _ _
   | exact ih7 _ _ _ _
   | exact postbagref04_left.mono _ _ _
   | exact postbagref04_right.mono _ _ _ _
   | exact LeO.none _
   | refine LeO.ite ?_ ?_
   | refine LeO.bind ?_ (fun _ => ?_)
  ·intro y0 y1 y2 y3 y4
   unfold postbagref04_plain.j3
   repeat' first
   | (with_reducible exact ih0 _ _ _ _ _)
   | (with_reducible exact ih1 _ _ _ _ _)
   | (with_reducible exact ih2 _ _ _ _ _)
   | (with_reducible exact ih3 _ _ _ _ _)
   | (with_reducible exact ih4 _ _ _ _)
   | (with_reducible exact ih5 _ _ _ _)
   | (with_reducible exact ih6 _ _ _ _)
   | (with_reducible exact ih7 _ _ _ _)
   | (with_reducible exact postbagref04_left.mono _ _ _)
   | (with_reducible exact postbagref04_right.mono _ _ _ _)
   | (with_reducible exact LeO.refl _)
   | (with_reducible exact LeO.none _)
   | (with_reducible refine LeO.ite ?_ ?_)
   | (with_reducible refine LeO.bind ?_ (fun _ => ?_))
   | exact ih0 _ _ _ _ _
   | exact ih1 _ _ _ _ _
   | exact ih2 _ _ _ _ _
   | exact ih3 _ _ _ _ _
   | exact ih4 _ _ _ _
   | exact ih5 _ _ _ _
   | exact ih6 _ _ _ _
   | exact ih7 _ _ _ _
   | exact postbagref04_left.mono _ _ _
   | exact postbagref04_right.mono _ _ _ _
   | exact LeO.none _
   | refine LeO.ite ?_ ?_
   | refine LeO.bind ?_ (fun _ => ?_)
  ·intro y0 y1 y2 y3
   unfold postbagref04_plain.j4
   repeat' first
   | (with_reducible exact ih0 _ _ _ _ _)
   | (with_reducible exact ih1 _ _ _ _ _)
   | (with_reducible exact ih2 _ _ _ _ _)
   | (with_reducible exact ih3 _ _ _ _ _)
   | (with_reducible exact ih4 _ _ _ _)
   | (with_reducible exact ih5 _ _ _ _)
   | (with_reducible exact ih6 _ _ _ _)
   | (with_reducible exact ih7 _ _ _ _)
   | (with_reducible exact postbagref04_left.mono _ _ _)
   | (with_reducible exact postbagref04_right.mono _ _ _ _)
   | (with_reducible exact LeO.refl _)
   | (with_reducible exact LeO.none _)
   | (with_reducible refine LeO.ite ?_ ?_)
   | (with_reducible refine LeO.bind ?_ (fun _ => ?_))
   | exact ih0 _ _ _ _ _
   | exact ih1 _ _ _ _ _
   | exact ih2 _ _ _ _ _
   | exact ih3 _ _ _ _ _
   | exact ih4 _ _ _ _
   | exact ih5 _ _ _ _
   | exact ih6 _ _ _ _
   | exact ih7 _ _ _ _
   | exact postbagref04_left.mono _ _ _
   | exact postbagref04_right.mono _ _ _ _
   | exact LeO.none _
   | refine LeO.ite ?_ ?_
   | refine LeO.bind ?_ (fun _ => ?_)
  ·intro y0 y1 y2 y3
   unfold postbagref04_plain.j5
   repeat' first
   | (with_reducible exact ih0 _ _ _ _ _)
   | (with_reducible exact ih1 _ _ _ _ _)
   | (with_reducible exact ih2 _ _ _ _ _)
   | (with_reducible exact ih3 _ _ _ _ _)
   | (with_reducible exact ih4 _ _ _ _)
   | (with_reducible exact ih5 _ _ _ _)
   | (with_reducible exact ih6 _ _ _ _)
   | (with_reducible exact ih7 _ _ _ _)
   | (with_reducible exact postbagref04_left.mono _ _ _)
   | (with_reducible exact postbagref04_right.mono _ _ _ _)
   | (with_reducible exact LeO.refl _)
   | (with_reducible exact LeO.none _)
   | (with_reducible refine LeO.ite ?_ ?_)
   | (with_reducible refine LeO.bind ?_ (fun _ => ?_))
   | exact ih0 _ _ _ _ _
   | exact ih1 _ _ _ _ _
   | exact ih2 _ _ _ _ _
   | exact ih3 _ _ _ _ _
   | exact ih4 _ _ _ _
   | exact ih5 _ _ _ _
   | exact ih6 _ _ _ _
   | exact ih7 _ _ _ _
   | exact postbagref04_left.mono _ _ _
   | exact postbagref04_right.mono _ _ _ _
   | exact LeO.none _
   | refine LeO.ite ?_ ?_
   | refine LeO.bind ?_ (fun _ => ?_)
  ·intro y0 y1 y2 y3
   unfold postbagref04_plain.j6
   repeat' first
   | (with_reducible exact ih0 _ _ _ _ _)
   | (with_reducible exact ih1 _ _ _ _ _)
   | (with_reducible exact ih2 _ _ _ _ _)
   | (with_reducible exact ih3 _ _ _ _ _)
   | (with_reducible exact ih4 _ _ _ _)
   | (with_reducible exact ih5 _ _ _ _)
   | (with_reducible exact ih6 _ _ _ _)
   | (with_reducible exact ih7 _ _ _ _)
   | (with_reducible exact postbagref04_left.mono _ _ _)
   | (with_reducible exact postbagref04_right.mono _ _ _ _)
   | (with_reducible exact LeO.refl _)
   | (with_reducible exact LeO.none _)
   | (with_reducible refine LeO.ite ?_ ?_)
   | (with_reducible refine LeO.bind ?_ (fun _ => ?_))
   | exact ih0 _ _ _ _ _
   | exact ih1 _ _ _ _ _
   | exact ih2 _ _ _ _ _
   | exact ih3 _ _ _ _ _
   | exact ih4 _ _ _ _
   | exact ih5 _ _ _ _
   | exact ih6 _ _ _ _
   | exact ih7 _ _ _ _
   | exact postbagref04_left.mono _ _ _
   | exact postbagref04_right.mono _ _ _ _
   | exact LeO.none _
   | refine LeO.ite ?_ ?_
   | refine LeO.bind ?_ (fun _ => ?_)
  ·intro y0 y1 y2 y3
   unfold postbagref04_plain.j7
   repeat' first
   | (with_reducible exact ih0 _ _ _ _ _)
   | (with_reducible exact ih1 _ _ _ _ _)
   | (with_reducible exact ih2 _ _ _ _ _)
   | (with_reducible exact ih3 _ _ _ _ _)
   | (with_reducible exact ih4 _ _ _ _)
   | (with_reducible exact ih5 _ _ _ _)
   | (with_reducible exact ih6 _ _ _ _)
   | (with_reducible exact ih7 _ _ _ _)
   | (with_reducible exact postbagref04_left.mono _ _ _)
   | (with_reducible exact postbagref04_right.mono _ _ _ _)
   | (with_reducible exact LeO.refl _)
   | (with_reducible exact LeO.none _)
   | (with_reducible refine LeO.ite ?_ ?_)
   | (with_reducible refine LeO.bind ?_ (fun _ => ?_))
   | exact ih0 _ _ _ _ _
   | exact ih1 _ _ _ _ _
   | exact ih2 _ _ _ _ _
   | exact ih3 _ _ _ _ _
   | exact ih4 _ _ _ _
   | exact ih5 _ _ _ _
   | exact ih6 _ _ _ _
   | exact ih7 _ _ _ _
   | exact postbagref04_left.mono _ _ _
   | exact postbagref04_right.mono _ _ _ _
   | exact LeO.none _
   | refine LeO.ite ?_ ?_
   | refine LeO.bind ?_ (fun _ => ?_)
theorem postbagref04_plain.mono : ∀ a0 a1 a2 k, LeO (postbagref04_plain.f k a0 a1 a2) (postbagref04_plain.f (k + 1) a0 a1 a2) := by
 intro a0 a1 a2 k
 obtain ⟨ih0, ih1, ih2, ih3, ih4, ih5, ih6, ih7⟩ := postbagref04_plain.mono_l k
 unfold postbagref04_plain.f
 repeat' first
   | (with_reducible exact ih0 _ _ _ _ _)
   | (with_reducible exact ih1 _ _ _ _ _)
   | (with_reducible exact ih2 _ _ _ _ _)
   | (with_reducible exact ih3 _ _ _ _ _)
   | (with_reducible exact ih4 _ _ _ _)
   | (with_reducible exact ih5 _ _ _ _)
   | (with_reducible exact ih6 _ _ _ _)
   | (with_reducible exact ih7 _ _ _ _)
   | (with_reducible exact postbagref04_left.mono _ _ _)
   | (with_reducible exact postbagref04_right.mono _ _ _ _)
   | (with_reducible exact LeO.refl _)
   | (with_reducible exact LeO.none _)
   | (with_reducible refine LeO.ite ?_ ?_)
   | (with_reducible refine LeO.bind ?_ (fun _ => ?_))
   | exact ih0 _ _ _ _ _
   | exact ih1 _ _ _ _ _
   | exact ih2 _ _ _ _ _
   | exact ih3 _ _ _ _ _
   | exact ih4 _ _ _ _
   | exact ih5 _ _ _ _
   | exact ih6 _ _ _ _
   | exact ih7 _ _ _ _
   | exact postbagref04_left.mono _ _ _
   | exact postbagref04_right.mono _ _ _ _
   | exact LeO.none _
   | refine LeO.ite ?_ ?_
   | refine LeO.bind ?_ (fun _ => ?_)
set_option maxHeartbeats 8000000 in
set_option maxRecDepth 100000 in
theorem postbagref04_plain.calls (k : Nat) (a0 : Int) (a1 : Int) (a2 : Int) (r1 : Int) (r2 : Bool) (w : World) (h : postbagref04_plain.f k a0 a1 a2 = some (r1, r2)) :
  Calls Tryz.prog 70 #[.int .i64 a0, .int .u64 a1, .int .u64 a2] w fun e w' => e = .returned (.tuple #[.int .u64 r1, .bool r2]) ∧ Drawn0 w w' := by
 have H := h
 clear h
 unfold postbagref04_plain.f at H
 obtain ⟨t330, A4, H⟩ := bam H
 try dsimp only at H
 have HC5 := am H
 clear H
 go_enter Tryz.func70, Tryz.ntmps70
 go_upto_if 13 with (first | ((with_reducible refine gate_callee (f := 98) rfl ?_); refine gl (some 10) rfl rfl Tryz.func98 rfl #[.int .u64 a2, .int .i64 0, .int .i64 6] rfl ?_; (with_reducible refine (postbagref01_Field.calls a2 0 6 t330 _ A4.out).mono ?_); rintro e w' ⟨rfl, ⟨nd, rfl⟩⟩; refine ⟨_, rfl, ?_⟩))
 (try simp only [Act.put, List.setIfInBounds_toArray, List.set_cons_zero, List.set_cons_succ])
 go_cut [13] (fun v13 wc => ∃ (kq : Nat) (x13_4 : Bool), v13 = .bool x13_4 ∧ Aside0 (postbagref04_plain.j0 kq a1 a2 (wrap64 (t330)) a0 x13_4 = some (r1, r2)) ∧ Aside0 (kq ≤ k) ∧ Drawn0 w wc)
 case first =>
  have H := HC5.out
  clear HC5
  by_cases c6 : a0 = 31
  ·rw [if_pos c6] at H
   obtain ⟨c6b0, c6b1⟩ := bqt c6
   clear c6
   (first | rw [c6b0] | (simp only [i64_w, i32_w]; rw [c6b0]) | skip)
   have H' := am H
   clear H
   go_wp2
   go_meet
   case rel => exact ⟨_, ((a0 == 31)), fr, H', ⟨om⟩, dd⟩
  ·rw [if_neg c6] at H
   obtain ⟨c6b0, c6b1⟩ := bqf c6
   (first | rw [c6b0] | (simp only [i64_w, i32_w]; rw [c6b0]) | skip)
   have H' := am H
   clear H
   go_wp2
   go_meet
   case rel => exact ⟨_, ((a0 == 22)), fr, H', ⟨om⟩, dd⟩
 case rest =>
  clear HC5
  try clear p2
  try clear c6
  try clear c6b0
  try clear c6b1
  try clear p6
  obtain ⟨kq, x13_4, rfl, HA, HJ4, ⟨mc4, rfl⟩⟩ := hcut
  cases kq with
  | zero => exact absurd HA.out (by simp [postbagref04_plain.j0])
  | succ kj4 =>
   have H := HA.out
   clear HA
   simp only [postbagref04_plain.j0] at H
   by_cases c7 : x13_4 = true
   ·subst c7
    rw [if_pos rfl] at H
    simp only [Option.some.injEq, Prod.mk.injEq] at H
    obtain ⟨rfl, rfl⟩ := H
    go_wp2
    go_ret2
    exact fd
   ·replace c7 := Bool.eq_false_iff.mpr c7
    subst c7
    rw [if_neg ff] at H
    by_cases c8 : a0 = 32
    ·rw [if_pos c8] at H
     obtain ⟨c8b0, c8b1⟩ := bqt c8
     clear c8
     simp only [Option.some.injEq, Prod.mk.injEq] at H
     obtain ⟨rfl, rfl⟩ := H
     go_wp2
     go_ret2
     exact fd
    ·rw [if_neg c8] at H
     obtain ⟨c8b0, c8b1⟩ := bqf c8
     have HC9 := am H
     clear H
     go_upto_if 24 with (fail)
     go_cut [24] (fun v24 wc => ∃ (kq : Nat) (x24_8 : Bool), v24 = .bool x24_8 ∧ Aside0 (postbagref04_plain.j1 kq a1 a2 (wrap64 (t330)) a0 x24_8 = some (r1, r2)) ∧ Aside0 (kq ≤ kj4) ∧ Drawn0 w wc)
     case first =>
      have H := HC9.out
      clear HC9
      by_cases c10 : a0 = 33
      ·rw [if_pos c10] at H
       obtain ⟨c10b0, c10b1⟩ := bqt c10
       clear c10
       (first | rw [c10b0] | (simp only [i64_w, i32_w]; rw [c10b0]) | skip)
       have H' := am H
       clear H
       go_wp2
       go_meet
       case rel => exact ⟨_, ((a0 == 33)), fr, H', ⟨by have := HJ4.out; first | omega | exact Nat.le_refl _⟩, dd⟩
      ·rw [if_neg c10] at H
       obtain ⟨c10b0, c10b1⟩ := bqf c10
       (first | rw [c10b0] | (simp only [i64_w, i32_w]; rw [c10b0]) | skip)
       have H' := am H
       clear H
       go_wp2
       go_meet
       case rel => exact ⟨_, ((a0 == 28)), fr, H', ⟨by have := HJ4.out; first | omega | exact Nat.le_refl _⟩, dd⟩
     case rest =>
      clear HC9
      try clear c1
      try clear p2
      try clear c4
      try clear c6
      try clear c6b0
      try clear c6b1
      try clear p6
      try clear c7
      try clear c8
      try clear c8b0
      try clear c8b1
      try clear c9
      try clear c10
      try clear c10b0
      try clear c10b1
      try clear p2
      try clear p6
      obtain ⟨kq, x24_8, rfl, HA, HJ8, ⟨mc8, rfl⟩⟩ := hcut
      cases kq with
      | zero => exact absurd HA.out (by simp [postbagref04_plain.j1])
      | succ kj8 =>
       have H := HA.out
       clear HA
       simp only [postbagref04_plain.j1] at H
       by_cases c11 : x24_8 = true
       ·subst c11
        rw [if_pos rfl] at H
        obtain ⟨t331, A12, H⟩ := bam H
        try dsimp only at H
        simp only [Option.some.injEq, Prod.mk.injEq] at H
        obtain ⟨rfl, rfl⟩ := H
        go_wp2_with (first | ((with_reducible refine gate_callee (f := 101) rfl ?_); refine gl (some 29) rfl rfl Tryz.func101 rfl #[.int .u64 a1, .int .i64 (wrap64 (t330))] rfl ?_; (with_reducible refine (postbagref04_left.calls kj8 a1 (wrap64 (t330)) t331 _ A12.out).mono ?_); rintro e w' ⟨rfl, ⟨nd, rfl⟩⟩; refine ⟨_, rfl, ?_⟩))
        go_ret2
        exact fd
       ·replace c11 := Bool.eq_false_iff.mpr c11
        subst c11
        rw [if_neg ff] at H
        have HC13 := am H
        clear H
        go_upto_if 30 with (fail)
        go_cut [30] (fun v30 wc => ∃ (kq : Nat) (x30_12 : Bool), v30 = .bool x30_12 ∧ Aside0 (postbagref04_plain.j2 kq a1 a2 (wrap64 (t330)) a0 x30_12 = some (r1, r2)) ∧ Aside0 (kq ≤ kj8) ∧ Drawn0 w wc)
        case first =>
         have H := HC13.out
         clear HC13
         by_cases c14 : a0 = 37
         ·rw [if_pos c14] at H
          obtain ⟨c14b0, c14b1⟩ := bqt c14
          clear c14
          (first | rw [c14b0] | (simp only [i64_w, i32_w]; rw [c14b0]) | skip)
          have H' := am H
          clear H
          go_wp2
          go_meet
          case rel => exact ⟨_, ((a0 == 37)), fr, H', ⟨by have := HJ4.out; have := HJ8.out; first | omega | exact Nat.le_refl _⟩, dd⟩
         ·rw [if_neg c14] at H
          obtain ⟨c14b0, c14b1⟩ := bqf c14
          (first | rw [c14b0] | (simp only [i64_w, i32_w]; rw [c14b0]) | skip)
          have H' := am H
          clear H
          go_wp2
          go_meet
          case rel => exact ⟨_, ((a0 == 29)), fr, H', ⟨by have := HJ4.out; have := HJ8.out; first | omega | exact Nat.le_refl _⟩, dd⟩
        case rest =>
         clear HC13
         try clear c1
         try clear p2
         try clear c4
         try clear c6
         try clear c6b0
         try clear c6b1
         try clear p6
         try clear c7
         try clear c8
         try clear c8b0
         try clear c8b1
         try clear c9
         try clear c10
         try clear c10b0
         try clear c10b1
         try clear c11
         try clear c14
         try clear c14b0
         try clear c14b1
         try clear p2
         try clear p6
         obtain ⟨kq, x30_12, rfl, HA, HJ12, ⟨mc12, rfl⟩⟩ := hcut
         cases kq with
         | zero => exact absurd HA.out (by simp [postbagref04_plain.j2])
         | succ kj12 =>
          have H := HA.out
          clear HA
          simp only [postbagref04_plain.j2] at H
          by_cases c15 : x30_12 = true
          ·subst c15
           rw [if_pos rfl] at H
           obtain ⟨t332, A16, H⟩ := bam H
           try dsimp only at H
           simp only [Option.some.injEq, Prod.mk.injEq] at H
           obtain ⟨rfl, rfl⟩ := H
           go_wp2_with (first | ((with_reducible refine gate_callee (f := 102) rfl ?_); refine gl (some 35) rfl rfl Tryz.func102 rfl #[.int .u64 a1, .int .i64 (wrap64 (t330)), .int .u64 0] rfl ?_; (with_reducible refine (postbagref04_right.calls kj12 a1 (wrap64 (t330)) 0 t332 _ A16.out).mono ?_); rintro e w' ⟨rfl, ⟨nd, rfl⟩⟩; refine ⟨_, rfl, ?_⟩))
           go_ret2
           exact fd
          ·replace c15 := Bool.eq_false_iff.mpr c15
           subst c15
           rw [if_neg ff] at H
           have HC17 := am H
           clear H
           go_upto_if 36 with (fail)
           go_cut [36] (fun v36 wc => ∃ (kq : Nat) (x36_16 : Bool), v36 = .bool x36_16 ∧ Aside0 (postbagref04_plain.j3 kq a1 a2 (wrap64 (t330)) a0 x36_16 = some (r1, r2)) ∧ Aside0 (kq ≤ kj12) ∧ Drawn0 w wc)
           case first =>
            have H := HC17.out
            clear HC17
            by_cases c18 : a0 = 38
            ·rw [if_pos c18] at H
             obtain ⟨c18b0, c18b1⟩ := bqt c18
             clear c18
             (first | rw [c18b0] | (simp only [i64_w, i32_w]; rw [c18b0]) | skip)
             have H' := am H
             clear H
             go_wp2
             go_meet
             case rel => exact ⟨_, ((a0 == 38)), fr, H', ⟨by have := HJ4.out; have := HJ8.out; have := HJ12.out; first | omega | exact Nat.le_refl _⟩, dd⟩
            ·rw [if_neg c18] at H
             obtain ⟨c18b0, c18b1⟩ := bqf c18
             (first | rw [c18b0] | (simp only [i64_w, i32_w]; rw [c18b0]) | skip)
             have H' := am H
             clear H
             go_wp2
             go_meet
             case rel => exact ⟨_, ((a0 == 30)), fr, H', ⟨by have := HJ4.out; have := HJ8.out; have := HJ12.out; first | omega | exact Nat.le_refl _⟩, dd⟩
           case rest =>
            clear HC17
            try clear c1
            try clear p2
            try clear c4
            try clear c6
            try clear c6b0
            try clear c6b1
            try clear p6
            try clear c7
            try clear c8
            try clear c8b0
            try clear c8b1
            try clear c9
            try clear c10
            try clear c10b0
            try clear c10b1
            try clear c11
            try clear c12
            try clear c14
            try clear c14b0
            try clear c14b1
            try clear c15
            try clear c18
            try clear c18b0
            try clear c18b1
            try clear p2
            try clear p6
            obtain ⟨kq, x36_16, rfl, HA, HJ16, ⟨mc16, rfl⟩⟩ := hcut
            cases kq with
            | zero => exact absurd HA.out (by simp [postbagref04_plain.j3])
            | succ kj16 =>
             have H := HA.out
             clear HA
             simp only [postbagref04_plain.j3] at H
             by_cases c19 : x36_16 = true
             ·subst c19
              rw [if_pos rfl] at H
              obtain ⟨t333, A20, H⟩ := bam H
              try dsimp only at H
              obtain ⟨t334, A21, H⟩ := bam H
              try dsimp only at H
              simp only [Option.some.injEq, Prod.mk.injEq] at H
              obtain ⟨rfl, rfl⟩ := H
              go_wp2_with (first | ((with_reducible refine gate_callee (f := 103) rfl ?_); refine gl (some 42) rfl rfl Tryz.func103 rfl #[.int .u64 a1, .int .i64 63] rfl ?_; (with_reducible refine (postbagref01_Bit.calls a1 63 t333 _ A20.out).mono ?_); rintro e w' ⟨rfl, ⟨nd, rfl⟩⟩; refine ⟨_, rfl, ?_⟩) | ((with_reducible refine gate_callee (f := 102) rfl ?_); refine gl (some 43) rfl rfl Tryz.func102 rfl #[.int .u64 a1, .int .i64 (wrap64 (t330)), .int .u64 t333] rfl ?_; (with_reducible refine (postbagref04_right.calls kj16 a1 (wrap64 (t330)) t333 t334 _ A21.out).mono ?_); rintro e w' ⟨rfl, ⟨nd, rfl⟩⟩; refine ⟨_, rfl, ?_⟩))
              go_ret2
              exact fd
             ·replace c19 := Bool.eq_false_iff.mpr c19
              subst c19
              rw [if_neg ff] at H
              have HC22 := am H
              clear H
              go_upto_if 44 with (fail)
              go_cut [44] (fun v44 wc => ∃ (kq : Nat) (x44_21 : Bool), v44 = .bool x44_21 ∧ Aside0 (postbagref04_plain.j4 kq a1 a2 a0 x44_21 = some (r1, r2)) ∧ Aside0 (kq ≤ kj16) ∧ Drawn0 w wc)
              case first =>
               have H := HC22.out
               clear HC22
               by_cases c23 : a0 = 34
               ·rw [if_pos c23] at H
                obtain ⟨c23b0, c23b1⟩ := bqt c23
                clear c23
                (first | rw [c23b0] | (simp only [i64_w, i32_w]; rw [c23b0]) | skip)
                have H' := am H
                clear H
                go_wp2
                go_meet
                case rel => exact ⟨_, ((a0 == 34)), fr, H', ⟨by have := HJ4.out; have := HJ8.out; have := HJ12.out; have := HJ16.out; first | omega | exact Nat.le_refl _⟩, dd⟩
               ·rw [if_neg c23] at H
                obtain ⟨c23b0, c23b1⟩ := bqf c23
                (first | rw [c23b0] | (simp only [i64_w, i32_w]; rw [c23b0]) | skip)
                have H' := am H
                clear H
                go_wp2
                go_meet
                case rel => exact ⟨_, ((a0 == 23)), fr, H', ⟨by have := HJ4.out; have := HJ8.out; have := HJ12.out; have := HJ16.out; first | omega | exact Nat.le_refl _⟩, dd⟩
              case rest =>
               clear HC22
               try clear c1
               try clear c2
               try clear p2
               try clear c4
               try clear c6
               try clear c6b0
               try clear c6b1
               try clear p6
               try clear c7
               try clear c8
               try clear c8b0
               try clear c8b1
               try clear c9
               try clear c10
               try clear c10b0
               try clear c10b1
               try clear c11
               try clear c12
               try clear c14
               try clear c14b0
               try clear c14b1
               try clear c15
               try clear c16
               try clear c18
               try clear c18b0
               try clear c18b1
               try clear c19
               try clear c23
               try clear c23b0
               try clear c23b1
               try clear p2
               try clear p6
               obtain ⟨kq, x44_21, rfl, HA, HJ21, ⟨mc21, rfl⟩⟩ := hcut
               cases kq with
               | zero => exact absurd HA.out (by simp [postbagref04_plain.j4])
               | succ kj21 =>
                have H := HA.out
                clear HA
                simp only [postbagref04_plain.j4] at H
                by_cases c24 : x44_21 = true
                ·subst c24
                 rw [if_pos rfl] at H
                 obtain ⟨t335, A25, H⟩ := bam H
                 try dsimp only at H
                 obtain ⟨t336, A26, H⟩ := bam H
                 try dsimp only at H
                 simp only [Option.some.injEq, Prod.mk.injEq] at H
                 obtain ⟨rfl, rfl⟩ := H
                 go_wp2_with (first | ((with_reducible refine gate_callee (f := 73) rfl ?_); refine gl (some 49) rfl rfl Tryz.func73 rfl #[.int .u64 a1, .int .u64 a2] rfl ?_; (with_reducible refine (postbagref04_less.calls a1 a2 t335 _ A25.out).mono ?_); rintro e w' ⟨rfl, ⟨nd, rfl⟩⟩; refine ⟨_, rfl, ?_⟩) | ((with_reducible refine gate_callee (f := 104) rfl ?_); refine gl (some 50) rfl rfl Tryz.func104 rfl #[.bool t335] rfl ?_; (with_reducible refine (postbagref04_one.calls t335 t336 _ A26.out).mono ?_); rintro e w' ⟨rfl, ⟨nd, rfl⟩⟩; refine ⟨_, rfl, ?_⟩))
                 go_ret2
                 exact fd
                ·replace c24 := Bool.eq_false_iff.mpr c24
                 subst c24
                 rw [if_neg ff] at H
                 have HC27 := am H
                 clear H
                 go_upto_if 51 with (fail)
                 go_cut [51] (fun v51 wc => ∃ (kq : Nat) (x51_26 : Bool), v51 = .bool x51_26 ∧ Aside0 (postbagref04_plain.j5 kq a1 a2 a0 x51_26 = some (r1, r2)) ∧ Aside0 (kq ≤ kj21) ∧ Drawn0 w wc)
                 case first =>
                  have H := HC27.out
                  clear HC27
                  by_cases c28 : a0 = 35
                  ·rw [if_pos c28] at H
                   obtain ⟨c28b0, c28b1⟩ := bqt c28
                   clear c28
                   (first | rw [c28b0] | (simp only [i64_w, i32_w]; rw [c28b0]) | skip)
                   have H' := am H
                   clear H
                   go_wp2
                   go_meet
                   case rel => exact ⟨_, ((a0 == 35)), fr, H', ⟨by have := HJ4.out; have := HJ8.out; have := HJ12.out; have := HJ16.out; have := HJ21.out; first | omega | exact Nat.le_refl _⟩, dd⟩
                  ·rw [if_neg c28] at H
                   obtain ⟨c28b0, c28b1⟩ := bqf c28
                   (first | rw [c28b0] | (simp only [i64_w, i32_w]; rw [c28b0]) | skip)
                   have H' := am H
                   clear H
                   go_wp2
                   go_meet
                   case rel => exact ⟨_, ((a0 == 24)), fr, H', ⟨by have := HJ4.out; have := HJ8.out; have := HJ12.out; have := HJ16.out; have := HJ21.out; first | omega | exact Nat.le_refl _⟩, dd⟩
                 case rest =>
                  clear HC27
                  try clear c1
                  try clear c2
                  try clear p2
                  try clear c4
                  try clear c6
                  try clear c6b0
                  try clear c6b1
                  try clear p6
                  try clear c7
                  try clear c8
                  try clear c8b0
                  try clear c8b1
                  try clear c9
                  try clear c10
                  try clear c10b0
                  try clear c10b1
                  try clear c11
                  try clear c12
                  try clear c14
                  try clear c14b0
                  try clear c14b1
                  try clear c15
                  try clear c16
                  try clear c18
                  try clear c18b0
                  try clear c18b1
                  try clear c19
                  try clear c21
                  try clear c23
                  try clear c23b0
                  try clear c23b1
                  try clear c24
                  try clear c28
                  try clear c28b0
                  try clear c28b1
                  try clear p2
                  try clear p6
                  obtain ⟨kq, x51_26, rfl, HA, HJ26, ⟨mc26, rfl⟩⟩ := hcut
                  cases kq with
                  | zero => exact absurd HA.out (by simp [postbagref04_plain.j5])
                  | succ kj26 =>
                   have H := HA.out
                   clear HA
                   simp only [postbagref04_plain.j5] at H
                   by_cases c29 : x51_26 = true
                   ·subst c29
                    rw [if_pos rfl] at H
                    obtain ⟨t337, A30, H⟩ := bam H
                    try dsimp only at H
                    simp only [Option.some.injEq, Prod.mk.injEq] at H
                    obtain ⟨rfl, rfl⟩ := H
                    go_wp2_with (first | ((with_reducible refine gate_callee (f := 104) rfl ?_); refine gl (some 57) rfl rfl Tryz.func104 rfl #[.bool (decide (a1 < a2))] rfl ?_; (with_reducible refine (postbagref04_one.calls (decide (a1 < a2)) t337 _ A30.out).mono ?_); rintro e w' ⟨rfl, ⟨nd, rfl⟩⟩; refine ⟨_, rfl, ?_⟩))
                    go_ret2
                    exact fd
                   ·replace c29 := Bool.eq_false_iff.mpr c29
                    subst c29
                    rw [if_neg ff] at H
                    have HC31 := am H
                    clear H
                    go_upto_if 58 with (fail)
                    go_cut [58] (fun v58 wc => ∃ (kq : Nat) (x58_30 : Bool), v58 = .bool x58_30 ∧ Aside0 (postbagref04_plain.j6 kq a1 a2 a0 x58_30 = some (r1, r2)) ∧ Aside0 (kq ≤ kj26) ∧ Drawn0 w wc)
                    case first =>
                     have H := HC31.out
                     clear HC31
                     by_cases c32 : a0 = 36
                     ·rw [if_pos c32] at H
                      obtain ⟨c32b0, c32b1⟩ := bqt c32
                      clear c32
                      (first | rw [c32b0] | (simp only [i64_w, i32_w]; rw [c32b0]) | skip)
                      have H' := am H
                      clear H
                      go_wp2
                      go_meet
                      case rel => exact ⟨_, ((a0 == 36)), fr, H', ⟨by have := HJ4.out; have := HJ8.out; have := HJ12.out; have := HJ16.out; have := HJ21.out; have := HJ26.out; first | omega | exact Nat.le_refl _⟩, dd⟩
                     ·rw [if_neg c32] at H
                      obtain ⟨c32b0, c32b1⟩ := bqf c32
                      (first | rw [c32b0] | (simp only [i64_w, i32_w]; rw [c32b0]) | skip)
                      have H' := am H
                      clear H
                      go_wp2
                      go_meet
                      case rel => exact ⟨_, ((a0 == 25)), fr, H', ⟨by have := HJ4.out; have := HJ8.out; have := HJ12.out; have := HJ16.out; have := HJ21.out; have := HJ26.out; first | omega | exact Nat.le_refl _⟩, dd⟩
                    case rest =>
                     clear HC31
                     try clear c1
                     try clear c2
                     try clear p2
                     try clear c3
                     try clear c4
                     try clear c6
                     try clear c6b0
                     try clear c6b1
                     try clear p6
                     try clear c7
                     try clear c8
                     try clear c8b0
                     try clear c8b1
                     try clear c9
                     try clear c10
                     try clear c10b0
                     try clear c10b1
                     try clear c11
                     try clear c12
                     try clear c14
                     try clear c14b0
                     try clear c14b1
                     try clear c15
                     try clear c16
                     try clear c18
                     try clear c18b0
                     try clear c18b1
                     try clear c19
                     try clear c21
                     try clear c23
                     try clear c23b0
                     try clear c23b1
                     try clear c24
                     try clear c26
                     try clear c28
                     try clear c28b0
                     try clear c28b1
                     try clear c29
                     try clear c32
                     try clear c32b0
                     try clear c32b1
                     try clear p2
                     try clear p6
                     obtain ⟨kq, x58_30, rfl, HA, HJ30, ⟨mc30, rfl⟩⟩ := hcut
                     cases kq with
                     | zero => exact absurd HA.out (by simp [postbagref04_plain.j6])
                     | succ kj30 =>
                      have H := HA.out
                      clear HA
                      simp only [postbagref04_plain.j6] at H
                      by_cases c33 : x58_30 = true
                      ·subst c33
                       rw [if_pos rfl] at H
                       simp only [Option.some.injEq, Prod.mk.injEq] at H
                       obtain ⟨rfl, rfl⟩ := H
                       go_wp2
                       go_ret2
                       exact fd
                      ·replace c33 := Bool.eq_false_iff.mpr c33
                       subst c33
                       rw [if_neg ff] at H
                       have HC34 := am H
                       clear H
                       go_upto_if 64 with (fail)
                       go_cut [64] (fun v64 wc => ∃ (kq : Nat) (x64_33 : Bool), v64 = .bool x64_33 ∧ Aside0 (postbagref04_plain.j7 kq a1 a2 a0 x64_33 = some (r1, r2)) ∧ Aside0 (kq ≤ kj30) ∧ Drawn0 w wc)
                       case first =>
                        have H := HC34.out
                        clear HC34
                        by_cases c35 : a0 = 39
                        ·rw [if_pos c35] at H
                         obtain ⟨c35b0, c35b1⟩ := bqt c35
                         clear c35
                         (first | rw [c35b0] | (simp only [i64_w, i32_w]; rw [c35b0]) | skip)
                         have H' := am H
                         clear H
                         go_wp2
                         go_meet
                         case rel => exact ⟨_, ((a0 == 39)), fr, H', ⟨by have := HJ4.out; have := HJ8.out; have := HJ12.out; have := HJ16.out; have := HJ21.out; have := HJ26.out; have := HJ30.out; first | omega | exact Nat.le_refl _⟩, dd⟩
                        ·rw [if_neg c35] at H
                         obtain ⟨c35b0, c35b1⟩ := bqf c35
                         (first | rw [c35b0] | (simp only [i64_w, i32_w]; rw [c35b0]) | skip)
                         have H' := am H
                         clear H
                         go_wp2
                         go_meet
                         case rel => exact ⟨_, ((a0 == 26)), fr, H', ⟨by have := HJ4.out; have := HJ8.out; have := HJ12.out; have := HJ16.out; have := HJ21.out; have := HJ26.out; have := HJ30.out; first | omega | exact Nat.le_refl _⟩, dd⟩
                       case rest =>
                        clear HC34
                        try clear c1
                        try clear c2
                        try clear p2
                        try clear c3
                        try clear c4
                        try clear c6
                        try clear c6b0
                        try clear c6b1
                        try clear p6
                        try clear c7
                        try clear c8
                        try clear c8b0
                        try clear c8b1
                        try clear c9
                        try clear c10
                        try clear c10b0
                        try clear c10b1
                        try clear c11
                        try clear c12
                        try clear c14
                        try clear c14b0
                        try clear c14b1
                        try clear c15
                        try clear c16
                        try clear c18
                        try clear c18b0
                        try clear c18b1
                        try clear c19
                        try clear c21
                        try clear c23
                        try clear c23b0
                        try clear c23b1
                        try clear c24
                        try clear c26
                        try clear c28
                        try clear c28b0
                        try clear c28b1
                        try clear c29
                        try clear c30
                        try clear c32
                        try clear c32b0
                        try clear c32b1
                        try clear c33
                        try clear c35
                        try clear c35b0
                        try clear c35b1
                        try clear p2
                        try clear p6
                        obtain ⟨kq, x64_33, rfl, HA, HJ33, ⟨mc33, rfl⟩⟩ := hcut
                        cases kq with
                        | zero => exact absurd HA.out (by simp [postbagref04_plain.j7])
                        | succ kj33 =>
                         have H := HA.out
                         clear HA
                         simp only [postbagref04_plain.j7] at H
                         by_cases c36 : x64_33 = true
                         ·subst c36
                          rw [if_pos rfl] at H
                          simp only [Option.some.injEq, Prod.mk.injEq] at H
                          obtain ⟨rfl, rfl⟩ := H
                          go_wp2
                          go_ret2
                          exact fd
                         ·replace c36 := Bool.eq_false_iff.mpr c36
                          subst c36
                          rw [if_neg ff] at H
                          by_cases c37 : a0 = 40
                          ·rw [if_pos c37] at H
                           obtain ⟨c37b0, c37b1⟩ := bqt c37
                           clear c37
                           simp only [Option.some.injEq, Prod.mk.injEq] at H
                           obtain ⟨rfl, rfl⟩ := H
                           go_wp2
                           go_ret2
                           exact fd
                          ·rw [if_neg c37] at H
                           obtain ⟨c37b0, c37b1⟩ := bqf c37
                           by_cases c38 : a0 = 27
                           ·rw [if_pos c38] at H
                            obtain ⟨c38b0, c38b1⟩ := bqt c38
                            clear c38
                            simp only [Option.some.injEq, Prod.mk.injEq] at H
                            obtain ⟨rfl, rfl⟩ := H
                            go_wp2
                            go_ret2
                            exact fd
                           ·rw [if_neg c38] at H
                            obtain ⟨c38b0, c38b1⟩ := bqf c38
                            simp only [Option.some.injEq, Prod.mk.injEq] at H
                            obtain ⟨rfl, rfl⟩ := H
                            go_wp2
                            go_ret2
                            exact fd
def postbagref04_word.f (a0 : Int) : Option (Int) := (postbagref01_Sign.f a0 32).bind fun t338 => (some t338)
set_option maxHeartbeats 8000000 in
set_option maxRecDepth 100000 in
theorem postbagref04_word.calls (a0 : Int) (r : Int) (w : World) (h : postbagref04_word.f a0 = some r) :
  Calls Tryz.prog 105 #[.int .u64 a0] w fun e w' => e = .returned (.int .u64 r) ∧ Drawn0 w w' := by
 have H := h
 clear h
 unfold postbagref04_word.f at H
 replace H := Option.bind_eq_some_iff.mp H
 obtain ⟨t338, A20, H⟩ := H
 replace H : (some t338) = some r := H
 have A2 := am A20
 clear A20
 obtain rfl := Option.some.inj H
 go_enter Tryz.func105, Tryz.ntmps105
 go_wp2_with (first | ((with_reducible refine gate_callee (f := 97) rfl ?_); refine gl (some 4) rfl rfl Tryz.func97 rfl #[.int .u64 a0, .int .i64 32] rfl ?_; (with_reducible refine (postbagref01_Sign.calls a0 32 t338 _ A2.out).mono ?_); rintro e w' ⟨rfl, ⟨nd, rfl⟩⟩; refine ⟨_, rfl, ?_⟩))
 go_ret
 exact fd
def postbagref04_low.f (a0 : Int) : Option (Int) := (postbagref01_Field.f a0 0 32).bind fun t339 => (some t339)
set_option maxHeartbeats 8000000 in
set_option maxRecDepth 100000 in
theorem postbagref04_low.calls (a0 : Int) (r : Int) (w : World) (h : postbagref04_low.f a0 = some r) :
  Calls Tryz.prog 106 #[.int .u64 a0] w fun e w' => e = .returned (.int .u64 r) ∧ Drawn0 w w' := by
 have H := h
 clear h
 unfold postbagref04_low.f at H
 replace H := Option.bind_eq_some_iff.mp H
 obtain ⟨t339, A20, H⟩ := H
 replace H : (some t339) = some r := H
 have A2 := am A20
 clear A20
 obtain rfl := Option.some.inj H
 go_enter Tryz.func106, Tryz.ntmps106
 go_wp2_with (first | ((with_reducible refine gate_callee (f := 98) rfl ?_); refine gl (some 4) rfl rfl Tryz.func98 rfl #[.int .u64 a0, .int .i64 0, .int .i64 32] rfl ?_; (with_reducible refine (postbagref01_Field.calls a0 0 32 t339 _ A2.out).mono ?_); rintro e w' ⟨rfl, ⟨nd, rfl⟩⟩; refine ⟨_, rfl, ?_⟩))
 go_ret
 exact fd
mutual
def postbagref01_Quo0.j0 : Nat → Int → Int → Int → Int → Option (Int)
 | 0, _, _, _, _ => none
 | k + 1, x0, x1, x7, x8 => (postbagref01_Bit.f x1 63).bind fun t341 => (if t341 = 1 then (postbagref01_Quo0.j1 k x0 x1 x7 (IntKind.u64.wrap (-x1))) else (postbagref01_Quo0.j1 k x0 x1 x7 x8))
def postbagref01_Quo0.j1 : Nat → Int → Int → Int → Int → Option (Int)
 | 0, _, _, _, _ => none
 | k + 1, x0, x1, x7, x8 => (postbagref01_Bit.f x0 63).bind fun t342 => ((postbagref01_Bit.f x1 63).bind fun t343 => (if t342 = t343 then (if x8 = 0 then (none) else (some (IntKind.u64.wrap (Int.tdiv x7 x8)))) else (if x8 = 0 then (none) else (some (IntKind.u64.wrap (-(IntKind.u64.wrap (Int.tdiv x7 x8))))))))
end
def postbagref01_Quo0.f (k : Nat) (a0 : Int) (a1 : Int) (a2 : Bool) : Option (Int) := if a1 = 0 then (some 18446744073709551615) else (if a2 = true then ((postbagref01_Bit.f a0 63).bind fun t340 => (if t340 = 1 then (postbagref01_Quo0.j0 k a0 a1 (IntKind.u64.wrap (-a0)) a1) else (postbagref01_Quo0.j0 k a0 a1 a0 a1))) else (some (IntKind.u64.wrap (Int.tdiv a0 a1))))
theorem postbagref01_Quo0.mono_l : ∀ k, (∀ y0 y1 y2 y3, LeO (postbagref01_Quo0.j0 k y0 y1 y2 y3) (postbagref01_Quo0.j0 (k + 1) y0 y1 y2 y3)) ∧ (∀ y0 y1 y2 y3, LeO (postbagref01_Quo0.j1 k y0 y1 y2 y3) (postbagref01_Quo0.j1 (k + 1) y0 y1 y2 y3))
 | 0 => ⟨fun _ _ _ _ r h => by simp [postbagref01_Quo0.j0] at h, fun _ _ _ _ r h => by simp [postbagref01_Quo0.j1] at h⟩
 | k + 1 => by
  obtain ⟨ih0, ih1⟩ := postbagref01_Quo0.mono_l k
  refine ⟨?_, ?_⟩
  ·intro y0 y1 y2 y3
   unfold postbagref01_Quo0.j0
   exact leo
  ·intro y0 y1 y2 y3
   unfold postbagref01_Quo0.j1
   exact leo
theorem postbagref01_Quo0.mono : ∀ a0 a1 a2 k, LeO (postbagref01_Quo0.f k a0 a1 a2) (postbagref01_Quo0.f (k + 1) a0 a1 a2) := by
 intro a0 a1 a2 k
 obtain ⟨ih0, ih1⟩ := postbagref01_Quo0.mono_l k
 unfold postbagref01_Quo0.f
 exact leo
set_option maxHeartbeats 8000000 in
set_option maxRecDepth 100000 in
theorem postbagref01_Quo0.calls (k : Nat) (a0 : Int) (a1 : Int) (a2 : Bool) (r : Int) (w : World) (h : postbagref01_Quo0.f k a0 a1 a2 = some r) :
  Calls Tryz.prog 107 #[.int .u64 a0, .int .u64 a1, .bool a2] w fun e w' => e = .returned (.int .u64 r) ∧ Drawn0 w w' := by
 have H := h
 clear h
 unfold postbagref01_Quo0.f at H
 by_cases c4 : a1 = 0
 ·rw [if_pos c4] at H
  obtain ⟨c4b0, c4b1⟩ := bqt c4
  clear c4
  obtain rfl := Option.some.inj H
  go_enter Tryz.func107, Tryz.ntmps107
  go_wp2
  go_ret
  exact fd
 ·rw [if_neg c4] at H
  obtain ⟨c4b0, c4b1⟩ := bqf c4
  by_cases c5 : a2 = true
  ·subst c5
   rw [if_pos rfl] at H
   obtain ⟨t340, A6, H⟩ := bam H
   try dsimp only at H
   have HC7 := am H
   clear H
   go_enter Tryz.func107, Tryz.ntmps107
   go_upto_if 20 with (first | ((with_reducible refine gate_callee (f := 103) rfl ?_); refine gl (some 19) rfl rfl Tryz.func103 rfl #[.int .u64 a0, .int .i64 63] rfl ?_; (with_reducible refine (postbagref01_Bit.calls a0 63 t340 _ A6.out).mono ?_); rintro e w' ⟨rfl, ⟨nd, rfl⟩⟩; refine ⟨_, rfl, ?_⟩))
   (try simp only [Act.put, List.setIfInBounds_toArray, List.set_cons_zero, List.set_cons_succ])
   go_cut [7] (fun v7 wc => ∃ (kq : Nat) (x7_6 : Int), v7 = .int .u64 x7_6 ∧ Aside0 (postbagref01_Quo0.j0 kq a0 a1 x7_6 a1 = some r) ∧ Aside0 (kq ≤ k) ∧ Drawn0 w wc)
   case first =>
    have H := HC7.out
    clear HC7
    by_cases c8 : t340 = 1
    ·rw [if_pos c8] at H
     obtain ⟨c8b0, c8b1⟩ := bqt c8
     clear c8
     (first | rw [c8b0] | (simp only [i64_w, i32_w]; rw [c8b0]) | skip)
     have H' := am H
     clear H
     go_wp2
     go_meet
     case rel => exact ⟨_, (IntKind.u64.wrap (-a0)), fr, H', ⟨om⟩, dd⟩
    ·rw [if_neg c8] at H
     obtain ⟨c8b0, c8b1⟩ := bqf c8
     (first | rw [c8b0] | (simp only [i64_w, i32_w]; rw [c8b0]) | skip)
     have H' := am H
     clear H
     go_wp2
     go_meet
     case rel => exact ⟨_, (a0), fr, H', ⟨om⟩, dd⟩
   case rest =>
    clear HC7
    try clear c1
    try clear p2
    try clear c4
    try clear c4b0
    try clear c4b1
    try clear c5
    try clear c8
    try clear c8b0
    try clear c8b1
    obtain ⟨kq, x7_6, rfl, HA, HJ6, ⟨mc6, rfl⟩⟩ := hcut
    cases kq with
    | zero => exact absurd HA.out (by simp [postbagref01_Quo0.j0])
    | succ kj6 =>
     have H := HA.out
     clear HA
     simp only [postbagref01_Quo0.j0] at H
     obtain ⟨t341, A9, H⟩ := bam H
     try dsimp only at H
     have HC10 := am H
     clear H
     go_upto_if 25 with (first | ((with_reducible refine gate_callee (f := 103) rfl ?_); refine gl (some 24) rfl rfl Tryz.func103 rfl #[.int .u64 a1, .int .i64 63] rfl ?_; (with_reducible refine (postbagref01_Bit.calls a1 63 t341 _ A9.out).mono ?_); rintro e w' ⟨rfl, ⟨nd, rfl⟩⟩; refine ⟨_, rfl, ?_⟩))
     (try simp only [Act.put, List.setIfInBounds_toArray, List.set_cons_zero, List.set_cons_succ])
     go_cut [8] (fun v8 wc => ∃ (kq : Nat) (x8_9 : Int), v8 = .int .u64 x8_9 ∧ Aside0 (postbagref01_Quo0.j1 kq a0 a1 x7_6 x8_9 = some r) ∧ Aside0 (kq ≤ kj6) ∧ Drawn0 w wc)
     case first =>
      have H := HC10.out
      clear HC10
      by_cases c11 : t341 = 1
      ·rw [if_pos c11] at H
       obtain ⟨c11b0, c11b1⟩ := bqt c11
       clear c11
       (first | rw [c11b0] | (simp only [i64_w, i32_w]; rw [c11b0]) | skip)
       have H' := am H
       clear H
       go_wp2
       go_meet
       case rel => exact ⟨_, (IntKind.u64.wrap (-a1)), fr, H', ⟨by have := HJ6.out; first | omega | exact Nat.le_refl _⟩, dd⟩
      ·rw [if_neg c11] at H
       obtain ⟨c11b0, c11b1⟩ := bqf c11
       (first | rw [c11b0] | (simp only [i64_w, i32_w]; rw [c11b0]) | skip)
       have H' := am H
       clear H
       go_wp2
       go_meet
       case rel => exact ⟨_, (a1), fr, H', ⟨by have := HJ6.out; first | omega | exact Nat.le_refl _⟩, dd⟩
     case rest =>
      clear HC10
      try clear c1
      try clear p2
      try clear c4
      try clear c4b0
      try clear c4b1
      try clear c5
      try clear c6
      try clear c8
      try clear c8b0
      try clear c8b1
      try clear c10
      try clear c11
      try clear c11b0
      try clear c11b1
      try clear p2
      obtain ⟨kq, x8_9, rfl, HA, HJ9, ⟨mc9, rfl⟩⟩ := hcut
      cases kq with
      | zero => exact absurd HA.out (by simp [postbagref01_Quo0.j1])
      | succ kj9 =>
       have H := HA.out
       clear HA
       simp only [postbagref01_Quo0.j1] at H
       obtain ⟨t342, A12, H⟩ := bam H
       try dsimp only at H
       obtain ⟨t343, A13, H⟩ := bam H
       try dsimp only at H
       by_cases c14 : t342 = t343
       ·rw [if_pos c14] at H
        obtain ⟨c14b0, c14b1⟩ := bqt c14
        clear c14
        by_cases c15 : x8_9 = 0
        ·rw [if_pos c15] at H
         exact absurd H (by simp)
        ·rw [if_neg c15] at H
         obtain ⟨c15b0, c15b1⟩ := bqf c15
         obtain rfl := Option.some.inj H
         go_wp2_with (first | ((with_reducible refine gate_callee (f := 103) rfl ?_); refine gl (some 29) rfl rfl Tryz.func103 rfl #[.int .u64 a0, .int .i64 63] rfl ?_; (with_reducible refine (postbagref01_Bit.calls a0 63 t342 _ A12.out).mono ?_); rintro e w' ⟨rfl, ⟨nd, rfl⟩⟩; refine ⟨_, rfl, ?_⟩) | ((with_reducible refine gate_callee (f := 103) rfl ?_); refine gl (some 31) rfl rfl Tryz.func103 rfl #[.int .u64 a1, .int .i64 63] rfl ?_; (with_reducible refine (postbagref01_Bit.calls a1 63 t343 _ A13.out).mono ?_); rintro e w' ⟨rfl, ⟨nd, rfl⟩⟩; refine ⟨_, rfl, ?_⟩))
         go_ret
         exact fd
       ·rw [if_neg c14] at H
        obtain ⟨c14b0, c14b1⟩ := bqf c14
        by_cases c16 : x8_9 = 0
        ·rw [if_pos c16] at H
         exact absurd H (by simp)
        ·rw [if_neg c16] at H
         obtain ⟨c16b0, c16b1⟩ := bqf c16
         obtain rfl := Option.some.inj H
         go_wp2_with (first | ((with_reducible refine gate_callee (f := 103) rfl ?_); refine gl (some 29) rfl rfl Tryz.func103 rfl #[.int .u64 a0, .int .i64 63] rfl ?_; (with_reducible refine (postbagref01_Bit.calls a0 63 t342 _ A12.out).mono ?_); rintro e w' ⟨rfl, ⟨nd, rfl⟩⟩; refine ⟨_, rfl, ?_⟩) | ((with_reducible refine gate_callee (f := 103) rfl ?_); refine gl (some 31) rfl rfl Tryz.func103 rfl #[.int .u64 a1, .int .i64 63] rfl ?_; (with_reducible refine (postbagref01_Bit.calls a1 63 t343 _ A13.out).mono ?_); rintro e w' ⟨rfl, ⟨nd, rfl⟩⟩; refine ⟨_, rfl, ?_⟩))
         go_ret
         exact fd
  ·replace c5 := Bool.eq_false_iff.mpr c5
   subst c5
   rw [if_neg ff] at H
   obtain rfl := Option.some.inj H
   go_enter Tryz.func107, Tryz.ntmps107
   go_wp2
   go_ret
   exact fd
def postbagref01_Quo.f (a0 : Int) (a1 : Int) (a2 : Bool) : Option (Int) := if U64 a0 ∧ U64 a1 then some (quoOf a0 a1 a2) else none
theorem postbagref01_Quo.spec (a0 a1 : Int) (a2 : Bool) (r : Int) (h : postbagref01_Quo.f a0 a1 a2 = some r) : ∃ k, postbagref01_Quo0.f k a0 a1 a2 = some r := by
 unfold postbagref01_Quo.f at h
 by_cases hu : U64 a0 ∧ U64 a1
 ·rw [if_pos hu] at h
  obtain rfl := Option.some.inj h
  refine ⟨2, ?_⟩
  unfold postbagref01_Quo0.f
  by_cases h0 : a1 = 0
  ·rw [if_pos h0, quoOf, if_pos h0]
  ·rw [if_neg h0]
   have e63 : ∀ x : Int, U64 x → bitOf x 63 = x / 9223372036854775808 := fun x hx => by
    have h := bitOf_nat x 63 (by omega); unfold U64 at hx; show bitOf x ((63 : Nat) : Int) = _; rw [h]; show x / 9223372036854775808 % 2 = _; omega
   cases a2
   ·simp only [Bool.false_eq_true, if_false]
    rw [quoOf, if_neg h0, if_neg (by decide), Int.tdiv_eq_ediv_of_nonneg hu.1.1, U64.wrap_eq]
    exact ⟨Int.ediv_nonneg hu.1.1 hu.2.1, Int.le_trans (Int.ediv_le_self _ hu.1.1) hu.1.2⟩
   ·simp only [if_true, postbagref01_Bit.eq hu.1, postbagref01_Bit.eq hu.2, Option.bind_some, postbagref01_Quo0.j0, postbagref01_Quo0.j1, e63 _ hu.1, e63 _ hu.2]
    have hq := quo_signs a0 a1 hu.1 hu.2 h0
    obtain ⟨q1, q2, q3, q4⟩ := hq
    by_cases ca : a0 / 9223372036854775808 = 1 <;> by_cases cb : a1 / 9223372036854775808 = 1
    ·rw [if_pos ca, if_pos cb, if_pos (by omega), if_neg (by have := hu; unfold U64 at this; rw [u64w]; omega), q1 ca cb]
    ·rw [if_pos ca, if_neg cb, if_neg (by omega), if_neg h0, q2 ca (by have := hu; unfold U64 at this; omega)]
    ·rw [if_neg ca, if_pos cb, if_neg (by omega), if_neg (by have := hu; unfold U64 at this; rw [u64w]; omega), q3 (by have := hu; unfold U64 at this; omega) cb]
    ·rw [if_neg ca, if_neg cb, if_pos (by have := hu; unfold U64 at this; omega), if_neg h0, q4 (by have := hu; unfold U64 at this; omega) (by have := hu; unfold U64 at this; omega)]
 ·rw [if_neg hu] at h; exact absurd h (by simp)
theorem postbagref01_Quo.eq {a0 a1 : Int} (h : U64 a0) (h1 : U64 a1) (a2 : Bool) : postbagref01_Quo.f a0 a1 a2 = some (quoOf a0 a1 a2) := if_pos ⟨h, h1⟩
theorem postbagref01_Quo.calls (a0 : Int) (a1 : Int) (a2 : Bool) (r : Int) (w : World) (h : postbagref01_Quo.f a0 a1 a2 = some r) :
  Calls Tryz.prog 107 #[.int .u64 a0, .int .u64 a1, .bool a2] w fun e w' => e = .returned (.int .u64 r) ∧ Drawn0 w w' := by
 obtain ⟨k, hk⟩ := postbagref01_Quo.spec a0 a1 a2 r h
 exact postbagref01_Quo0.calls k a0 a1 a2 r w hk
def postbagref01_Rem0.f (a0 : Int) (a1 : Int) (a2 : Bool) : Option (Int) := if a1 = 0 then (some a0) else ((postbagref01_Quo.f a0 a1 a2).bind fun t344 => (some (IntKind.u64.wrap (a0 - (IntKind.u64.wrap (t344 * a1))))))
set_option maxHeartbeats 8000000 in
set_option maxRecDepth 100000 in
theorem postbagref01_Rem0.calls (a0 : Int) (a1 : Int) (a2 : Bool) (r : Int) (w : World) (h : postbagref01_Rem0.f a0 a1 a2 = some r) :
  Calls Tryz.prog 108 #[.int .u64 a0, .int .u64 a1, .bool a2] w fun e w' => e = .returned (.int .u64 r) ∧ Drawn0 w w' := by
 have H := h
 clear h
 unfold postbagref01_Rem0.f at H
 by_cases c4 : a1 = 0
 ·rw [if_pos c4] at H
  obtain ⟨c4b0, c4b1⟩ := bqt c4
  clear c4
  obtain rfl := Option.some.inj H
  go_enter Tryz.func108, Tryz.ntmps108
  go_wp2
  go_ret
  exact fd
 ·rw [if_neg c4] at H
  obtain ⟨c4b0, c4b1⟩ := bqf c4
  obtain ⟨t344, A5, H⟩ := bam H
  try dsimp only at H
  obtain rfl := Option.some.inj H
  go_enter Tryz.func108, Tryz.ntmps108
  go_wp2_with (first | ((with_reducible refine gate_callee (f := 107) rfl ?_); refine gl (some 14) rfl rfl Tryz.func107 rfl #[.int .u64 a0, .int .u64 a1, .bool a2] rfl ?_; (with_reducible refine (postbagref01_Quo.calls a0 a1 a2 t344 _ A5.out).mono ?_); rintro e w' ⟨rfl, ⟨nd, rfl⟩⟩; refine ⟨_, rfl, ?_⟩))
  go_ret
  exact fd
def postbagref01_Rem.f (a0 : Int) (a1 : Int) (a2 : Bool) : Option (Int) := if U64 a0 ∧ U64 a1 then some (remOf a0 a1 a2) else none
theorem postbagref01_Rem.spec (a0 a1 : Int) (a2 : Bool) (r : Int) (h : postbagref01_Rem.f a0 a1 a2 = some r) : postbagref01_Rem0.f a0 a1 a2 = some r := by
 unfold postbagref01_Rem.f at h
 by_cases hu : U64 a0 ∧ U64 a1
 ·rw [if_pos hu] at h
  obtain rfl := Option.some.inj h
  unfold postbagref01_Rem0.f
  by_cases h0 : a1 = 0
  ·rw [if_pos h0, remOf, if_pos h0]
  ·rw [if_neg h0, postbagref01_Quo.eq hu.1 hu.2]
   simp only [Option.bind_some]
   rw [rem_quo a0 a1 a2 hu.1 hu.2 h0]
 ·rw [if_neg hu] at h; exact absurd h (by simp)
theorem postbagref01_Rem.eq {a0 a1 : Int} (h : U64 a0) (h1 : U64 a1) (a2 : Bool) : postbagref01_Rem.f a0 a1 a2 = some (remOf a0 a1 a2) := if_pos ⟨h, h1⟩
theorem postbagref01_Rem.calls (a0 : Int) (a1 : Int) (a2 : Bool) (r : Int) (w : World) (h : postbagref01_Rem.f a0 a1 a2 = some r) :
  Calls Tryz.prog 108 #[.int .u64 a0, .int .u64 a1, .bool a2] w fun e w' => e = .returned (.int .u64 r) ∧ Drawn0 w w' := by
 have hk := postbagref01_Rem.spec a0 a1 a2 r h
 exact postbagref01_Rem0.calls a0 a1 a2 r w hk
end Go.Proofs.YtcjfafhbohkhlaaGreat.PAll
