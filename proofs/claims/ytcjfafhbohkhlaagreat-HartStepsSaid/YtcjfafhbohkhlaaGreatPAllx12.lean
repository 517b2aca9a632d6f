/- DERIVED. Printed contracts of functions. -/
import Derived.Test.YtcjfafhbohkhlaaGreatPAllx0
import Derived.Test.YtcjfafhbohkhlaaGreatPAllx11
namespace Go.Proofs.YtcjfafhbohkhlaaGreat.PAll
open Go.RowKit Go.Proofs.YtcjfafhbohkhlaaGreatW.PrintWords Go.Proofs.YtcjfafhbohkhlaaGreatW.PrintLast Go.Proofs.YtcjfafhbohkhlaaGreatW.PrintMore Go.Proofs.YtcjfafhbohkhlaaGreat.M
attribute [local go_sem] max2_int min2_int max_two min_two max_three min_three max_four min_four
set_option linter.unusedVariables false
set_option linter.unusedSimpArgs false
mutual
def postbagref01_Sign0.j0 : Nat → Int → Int → Bool → Option (Int)
 | 0, _, _, _ => none
 | k + 1, x0, x1, x13 => if x13 = true then (some x0) else (postbagref01_Sign0.l0 k x0 x1 0 0)
def postbagref01_Sign0.l0 : Nat → Int → Int → Int → Int → Option (Int)
 | 0, _, _, _, _ => none
 | k + 1, x0, x1, x5, x6 => if x6 < 64 then ((postbagref01_Bit.f x0 (wrap64 (x1 - 1))).bind fun t227 => (if x6 < x1 then ((postbagref01_Bit.f x0 x6).bind fun t228 => ((postbagref01_power.f x6).bind fun t229 => (postbagref01_Sign0.l0 k x0 x1 (IntKind.u64.wrap (x5 + (IntKind.u64.wrap (t228 * t229)))) (wrap64 (x6 + 1))))) else ((postbagref01_power.f x6).bind fun t230 => (postbagref01_Sign0.l0 k x0 x1 (IntKind.u64.wrap (x5 + (IntKind.u64.wrap (t227 * t230)))) (wrap64 (x6 + 1)))))) else (some x5)
end
def postbagref01_Sign0.f (k : Nat) (a0 : Int) (a1 : Int) : Option (Int) := if a1 < 1 then (postbagref01_Sign0.j0 k a0 a1 true) else (postbagref01_Sign0.j0 k a0 a1 (decide (a1 > 63)))
theorem postbagref01_Sign0.mono_l : ∀ k, (∀ y0 y1 y2, LeO (postbagref01_Sign0.j0 k y0 y1 y2) (postbagref01_Sign0.j0 (k + 1) y0 y1 y2)) ∧ (∀ y0 y1 y2 y3, LeO (postbagref01_Sign0.l0 k y0 y1 y2 y3) (postbagref01_Sign0.l0 (k + 1) y0 y1 y2 y3))
 | 0 => ⟨fun _ _ _ r h => by simp [postbagref01_Sign0.j0] at h, fun _ _ _ _ r h => by simp [postbagref01_Sign0.l0] at h⟩
 | k + 1 => by
  obtain ⟨ih0, ih1⟩ := postbagref01_Sign0.mono_l k
  refine ⟨?_, ?_⟩
  ·intro y0 y1 y2
   unfold postbagref01_Sign0.j0
   exact leo
  ·intro y0 y1 y2 y3
   unfold postbagref01_Sign0.l0
   exact leo
theorem postbagref01_Sign0.mono : ∀ a0 a1 k, LeO (postbagref01_Sign0.f k a0 a1) (postbagref01_Sign0.f (k + 1) a0 a1) := by
 intro a0 a1 k
 obtain ⟨ih0, ih1⟩ := postbagref01_Sign0.mono_l k
 unfold postbagref01_Sign0.f
 exact leo
set_option maxHeartbeats 8000000 in
set_option maxRecDepth 100000 in
theorem postbagref01_Sign0.calls (k : Nat) (a0 : Int) (a1 : Int) (r : Int) (w : World) (h : postbagref01_Sign0.f k a0 a1 = some r) :
  Calls Tryz.prog 97 #[.int .u64 a0, .int .i64 a1] w fun e w' => e = .returned (.int .u64 r) ∧ Drawn0 w w' := by
 have H := h
 clear h
 unfold postbagref01_Sign0.f at H
 have HC3 := am H
 clear H
 go_enter Tryz.func97, Tryz.ntmps97
 go_upto_region 1 with (fail)
 go_cut [13] (fun v13 wc => ∃ (kq : Nat) (x13_2 : Bool), v13 = .bool x13_2 ∧ Aside0 (postbagref01_Sign0.j0 kq a0 a1 x13_2 = some r) ∧ Aside0 (kq ≤ k) ∧ Drawn0 w wc)
 case first =>
  have H := HC3.out
  clear HC3
  by_cases c4 : a1 < 1
  ·rw [if_pos c4] at H
   have c4b0 : decide (a1 < 1) = true := decide_eq_true c4
   clear c4
   (first | rw [c4b0] | (simp only [i64_w, i32_w]; rw [c4b0]) | skip)
   have H' := am H
   clear H
   go_wp2
   go_meet
   case rel => exact ⟨_, (true), fr, H', ⟨om⟩, dd⟩
  ·rw [if_neg c4] at H
   have c4b0 : decide (a1 < 1) = false := decide_eq_false c4
   clear c4
   (first | rw [c4b0] | (simp only [i64_w, i32_w]; rw [c4b0]) | skip)
   have H' := am H
   clear H
   go_wp2
   go_meet
   case rel => exact ⟨_, (decide (a1 > 63)), fr, H', ⟨om⟩, dd⟩
 case rest =>
  clear HC3
  try clear p2
  try clear c4
  try clear c4b0
  obtain ⟨kq, x13_2, rfl, HA, HJ2, ⟨mc2, rfl⟩⟩ := hcut
  cases kq with
  | zero => exact absurd HA.out (by simp [postbagref01_Sign0.j0])
  | succ kj2 =>
   have H := HA.out
   clear HA
   simp only [postbagref01_Sign0.j0] at H
   by_cases c5 : x13_2 = true
   ·subst c5
    rw [if_pos rfl] at H
    obtain rfl := Option.some.inj H
    go_wp2
    go_ret
    exact fd
   ·replace c5 := Bool.eq_false_iff.mpr c5
    subst c5
    rw [if_neg ff] at H
    have H' := am H
    clear H
    go_wp2
    go_loopg [5, 6] kj2 (fun kq v5 v6 w' => ∃ (x5_2 : Int) (x6_2 : Int), v5 = .int .u64 x5_2 ∧ v6 = .int .i64 x6_2 ∧ Aside0 (postbagref01_Sign0.l0 kq a0 a1 x5_2 x6_2 = some r) ∧ Aside0 (kq ≤ kj2) ∧ Drawn0 w w')
    case atStart => exact ⟨(0), (0), fr, fr, H', ⟨Nat.le_refl _⟩, dd⟩
    case round =>
     clear H'
     try clear c2
     try clear p2
     try clear c4
     try clear c4b0
     try clear c5
     try clear p2
     obtain ⟨x5_2, x6_2, rfl, rfl, HA, HK2, ⟨m2, rfl⟩⟩ := hrel
     cases gk with
     | zero => exact absurd HA.out (by simp [postbagref01_Sign0.l0])
     | succ k2 =>
      have H := HA.out
      clear HA
      simp only [postbagref01_Sign0.l0] at H
      by_cases c6 : x6_2 < 64
      ·rw [if_pos c6] at H
       have c6b0 : decide (x6_2 < 64) = true := decide_eq_true c6
       clear c6
       obtain ⟨t227, A7, H⟩ := bam H
       try dsimp only at H
       by_cases c8 : x6_2 < a1
       ·rw [if_pos c8] at H
        have c8b0 : decide (x6_2 < a1) = true := decide_eq_true c8
        clear c8
        obtain ⟨t228, A9, H⟩ := bam H
        try dsimp only at H
        obtain ⟨t229, A10, H⟩ := bam H
        try dsimp only at H
        have H' := am H
        clear H
        go_wp2_with (first | ((with_reducible refine gate_callee (f := 103) rfl ?_); refine gl (some 22) rfl rfl Tryz.func103 rfl #[.int .u64 a0, .int .i64 (wrap64 (a1 - 1))] rfl ?_; (with_reducible refine (postbagref01_Bit.calls a0 (wrap64 (a1 - 1)) t227 _ A7.out).mono ?_); rintro e w' ⟨rfl, ⟨nd, rfl⟩⟩; refine ⟨_, rfl, ?_⟩) | ((with_reducible refine gate_callee (f := 103) rfl ?_); refine gl (some 28) rfl rfl Tryz.func103 rfl #[.int .u64 a0, .int .i64 x6_2] rfl ?_; (with_reducible refine (postbagref01_Bit.calls a0 x6_2 t228 _ A9.out).mono ?_); rintro e w' ⟨rfl, ⟨nd, rfl⟩⟩; refine ⟨_, rfl, ?_⟩) | ((with_reducible refine gate_callee (f := 111) rfl ?_); refine gl (some 32) rfl rfl Tryz.func111 rfl #[.int .i64 x6_2] rfl ?_; (with_reducible refine (postbagref01_power.calls x6_2 t229 _ A10.out).mono ?_); rintro e w' ⟨rfl, ⟨nd, rfl⟩⟩; refine ⟨_, rfl, ?_⟩))
        go_roundg k2
        case measure => have := HJ2.out; have := HK2.out; omega
        case rel => exact ⟨(IntKind.u64.wrap (x5_2 + (IntKind.u64.wrap (t228 * t229)))), (wrap64 (x6_2 + 1)), fr, fr, H', ⟨by have := HJ2.out; have := HK2.out; omega⟩, dd⟩
       ·rw [if_neg c8] at H
        have c8b0 : decide (x6_2 < a1) = false := decide_eq_false c8
        clear c8
        obtain ⟨t230, A11, H⟩ := bam H
        try dsimp only at H
        have H' := am H
        clear H
        go_wp2_with (first | ((with_reducible refine gate_callee (f := 103) rfl ?_); refine gl (some 22) rfl rfl Tryz.func103 rfl #[.int .u64 a0, .int .i64 (wrap64 (a1 - 1))] rfl ?_; (with_reducible refine (postbagref01_Bit.calls a0 (wrap64 (a1 - 1)) t227 _ A7.out).mono ?_); rintro e w' ⟨rfl, ⟨nd, rfl⟩⟩; refine ⟨_, rfl, ?_⟩) | ((with_reducible refine gate_callee (f := 111) rfl ?_); refine gl (some 32) rfl rfl Tryz.func111 rfl #[.int .i64 x6_2] rfl ?_; (with_reducible refine (postbagref01_power.calls x6_2 t230 _ A11.out).mono ?_); rintro e w' ⟨rfl, ⟨nd, rfl⟩⟩; refine ⟨_, rfl, ?_⟩))
        go_roundg k2
        case measure => have := HJ2.out; have := HK2.out; omega
        case rel => exact ⟨(IntKind.u64.wrap (x5_2 + (IntKind.u64.wrap (t227 * t230)))), (wrap64 (x6_2 + 1)), fr, fr, H', ⟨by have := HJ2.out; have := HK2.out; omega⟩, dd⟩
      ·rw [if_neg c6] at H
       have c6b0 : decide (x6_2 < 64) = false := decide_eq_false c6
       clear c6
       obtain rfl := Option.some.inj H
       go_wp2
       go_ret
       exact fd
def postbagref01_Sign.f (a0 : Int) (a1 : Int) : Option (Int) := if U64 a0 then some (signOf a0 a1) else none
theorem postbagref01_Sign.loop (x : Int) (hx : U64 x) (n : Nat) (h1 : 1 ≤ n) (h2 : n ≤ 63) (d : Nat) : ∀ (k i : Nat), i + d = 64 → d < k →
  postbagref01_Sign0.l0 k x n (signTo x n i) i = some (signOf x n) := by
 induction d with
 | zero =>
  intro k i hi hk
  obtain ⟨k, rfl⟩ : ∃ m, k = m + 1 := ⟨k - 1, by omega⟩
  obtain rfl : i = 64 := by omega
  simp only [postbagref01_Sign0.l0]
  rw [if_neg (by omega), signTo_all x n h1 h2]
 | succ d ih =>
  intro k i hi hk
  obtain ⟨k, rfl⟩ : ∃ m, k = m + 1 := ⟨k - 1, by omega⟩
  simp only [postbagref01_Sign0.l0]
  rw [if_pos (by omega), postbagref01_Bit.eq hx, I64.wrap_eq (show I64 ((i : Int) + 1) by unfold I64; omega), I64.wrap_eq (show I64 ((n : Int) - 1) by unfold I64; omega)]
  simp only [Option.bind_some, postbagref01_power.f]
  have hs := signTo_step x n i h1 h2 (by omega)
  have hr := signTo_range x n (i + 1) hx (by omega) h2
  have hr0 := signTo_range x n i hx (by omega) h2
  have e2 : powOf (i : Int) = 2 ^ i := by unfold powOf; rw [if_neg (by omega), if_neg (by omega), Int.toNat_natCast]
  have hp := ipos i
  have hw : ∀ b : Int, b = 0 ∨ b = 1 → signTo x n (i + 1) = signTo x n i + b * 2 ^ i → IntKind.u64.wrap (signTo x n i + IntKind.u64.wrap (b * 2 ^ i)) = signTo x n (i + 1) := by
   intro b hb he
   have hb2 : U64 (b * 2 ^ i) := by
    rcases hb with rfl | rfl
    ·rw [Int.zero_mul]; decide
    ·rw [Int.one_mul] at *; unfold U64 at *; omega
   rw [hb2.wrap_eq, ← he, hr.wrap_eq]
  by_cases h : i < n
  ·rw [if_pos (by omega), postbagref01_Bit.eq hx]
   simp only [Option.bind_some]
   rw [if_pos h] at hs
   rw [e2, hw _ (bitOf_bool _ _) hs, show ((i : Int) + 1) = ((i + 1 : Nat) : Int) from by omega]
   exact ih k (i + 1) (by omega) (by omega)
  ·rw [if_neg (by omega)]
   rw [if_neg h] at hs
   rw [e2, hw _ (bitOf_bool _ _) hs, show ((i : Int) + 1) = ((i + 1 : Nat) : Int) from by omega]
   exact ih k (i + 1) (by omega) (by omega)
theorem postbagref01_Sign.spec (a0 a1 r : Int) (h : postbagref01_Sign.f a0 a1 = some r) : ∃ k, postbagref01_Sign0.f k a0 a1 = some r := by
 unfold postbagref01_Sign.f at h
 by_cases hu : U64 a0
 ·rw [if_pos hu] at h
  obtain rfl := Option.some.inj h
  refine ⟨67, ?_⟩
  unfold postbagref01_Sign0.f
  by_cases h1 : a1 < 1
  ·rw [if_pos h1]; simp only [postbagref01_Sign0.j0, if_true, signOf]; rw [if_pos (Or.inl h1)]
  ·rw [if_neg h1]
   by_cases h2 : a1 > 63
   ·rw [decide_eq_true h2]; simp only [postbagref01_Sign0.j0, if_true, signOf]; rw [if_pos (Or.inr h2)]
   ·rw [decide_eq_false h2]
    simp only [postbagref01_Sign0.j0]
    obtain ⟨n, rfl⟩ : ∃ n : Nat, a1 = n := ⟨a1.toNat, by omega⟩
    have h := postbagref01_Sign.loop a0 hu n (by omega) (by omega) 64 66 0 (by omega) (by omega)
    rw [if_neg (by decide), ← h]
    congr 1
    unfold signTo; rw [if_pos (by omega), Int.pow_zero, Int.emod_one]
 ·rw [if_neg hu] at h; exact absurd h (by simp)
theorem postbagref01_Sign.eq {a0 : Int} (h : U64 a0) (a1 : Int) : postbagref01_Sign.f a0 a1 = some (signOf a0 a1) := if_pos h
theorem postbagref01_Sign.calls (a0 : Int) (a1 : Int) (r : Int) (w : World) (h : postbagref01_Sign.f a0 a1 = some r) :
  Calls Tryz.prog 97 #[.int .u64 a0, .int .i64 a1] w fun e w' => e = .returned (.int .u64 r) ∧ Drawn0 w w' := by
 obtain ⟨k, hk⟩ := postbagref01_Sign.spec a0 a1 r h
 exact postbagref01_Sign0.calls k a0 a1 r w hk
def postbagref02_signed0.f (a0 : Int) (a1 : Int) : Option (Int) := (postbagref01_Sign.f a0 a1).bind fun t231 => (some (wrap64 (t231)))
set_option maxHeartbeats 8000000 in
set_option maxRecDepth 100000 in
theorem postbagref02_signed0.calls (a0 : Int) (a1 : Int) (r : Int) (w : World) (h : postbagref02_signed0.f a0 a1 = some r) :
  Calls Tryz.prog 118 #[.int .u64 a0, .int .i64 a1] w fun e w' => e = .returned (.int .i64 r) ∧ Drawn0 w w' := by
 have H := h
 clear h
 unfold postbagref02_signed0.f at H
 obtain ⟨t231, A3, H⟩ := bam H
 try dsimp only at H
 obtain rfl := Option.some.inj H
 go_enter Tryz.func118, Tryz.ntmps118
 go_wp2_with (first | ((with_reducible refine gate_callee (f := 97) rfl ?_); refine gl (some 7) rfl rfl Tryz.func97 rfl #[.int .u64 a0, .int .i64 a1] rfl ?_; (with_reducible refine (postbagref01_Sign.calls a0 a1 t231 _ A3.out).mono ?_); rintro e w' ⟨rfl, ⟨nd, rfl⟩⟩; refine ⟨_, rfl, ?_⟩))
 go_ret
 exact fd
def postbagref02_signed.f (a0 : Int) (a1 : Int) : Option (Int) := if U64 a0 then some (wrap64 (signOf a0 a1)) else none
theorem postbagref02_signed.spec (a0 a1 r : Int) (h : postbagref02_signed.f a0 a1 = some r) : postbagref02_signed0.f a0 a1 = some r := by
 unfold postbagref02_signed.f at h
 split at h
 ·rename_i hc
  rw [← h]; unfold postbagref02_signed0.f postbagref01_Sign.f
  rw [if_pos hc]; rfl
 ·simp at h
theorem postbagref02_signed.calls (a0 : Int) (a1 : Int) (r : Int) (w : World) (h : postbagref02_signed.f a0 a1 = some r) :
  Calls Tryz.prog 118 #[.int .u64 a0, .int .i64 a1] w fun e w' => e = .returned (.int .i64 r) ∧ Drawn0 w w' := by
 have hk := postbagref02_signed.spec a0 a1 r h
 exact postbagref02_signed0.calls a0 a1 r w hk
def postbagref02_value0.f (a0 : Int) (a1 : Int) : Option (Int) := if a1 = 1 then ((postbagref02_field.f a0 12 20).bind fun t232 => ((postbagref02_signed.f (IntKind.u64.wrap (t232 * 4096)) 32).bind fun t233 => (some t233))) else (if a1 = 2 then ((postbagref02_field.f a0 31 1).bind fun t234 => ((postbagref02_field.f a0 12 8).bind fun t235 => ((postbagref02_field.f a0 20 1).bind fun t236 => ((postbagref02_field.f a0 21 10).bind fun t237 => ((postbagref02_signed.f (IntKind.u64.wrap ((IntKind.u64.wrap ((IntKind.u64.wrap ((IntKind.u64.wrap (t234 * 1048576)) + (IntKind.u64.wrap (t235 * 4096)))) + (IntKind.u64.wrap (t236 * 2048)))) + (IntKind.u64.wrap (t237 * 2)))) 21).bind fun t238 => (some t238)))))) else (if a1 = 3 then ((postbagref02_field.f a0 20 12).bind fun t239 => ((postbagref02_signed.f t239 12).bind fun t240 => (some t240))) else (if a1 = 4 then ((postbagref02_field.f a0 31 1).bind fun t241 => ((postbagref02_field.f a0 7 1).bind fun t242 => ((postbagref02_field.f a0 25 6).bind fun t243 => ((postbagref02_field.f a0 8 4).bind fun t244 => ((postbagref02_signed.f (IntKind.u64.wrap ((IntKind.u64.wrap ((IntKind.u64.wrap ((IntKind.u64.wrap (t241 * 4096)) + (IntKind.u64.wrap (t242 * 2048)))) + (IntKind.u64.wrap (t243 * 32)))) + (IntKind.u64.wrap (t244 * 2)))) 13).bind fun t245 => (some t245)))))) else (if a1 = 5 then ((postbagref02_field.f a0 25 7).bind fun t246 => ((postbagref02_field.f a0 7 5).bind fun t247 => ((postbagref02_signed.f (IntKind.u64.wrap ((IntKind.u64.wrap (t246 * 32)) + t247)) 12).bind fun t248 => (some t248)))) else (if a1 = 6 then ((postbagref02_field.f a0 20 6).bind fun t249 => (some (wrap64 (t249)))) else (if a1 = 7 then ((postbagref02_field.f a0 20 5).bind fun t250 => (some (wrap64 (t250)))) else (if a1 = 9 then ((postbagref02_field.f a0 20 8).bind fun t251 => (some (wrap64 (t251)))) else (some 0))))))))
set_option maxHeartbeats 8000000 in
set_option maxRecDepth 100000 in
theorem postbagref02_value0.calls (a0 : Int) (a1 : Int) (r : Int) (w : World) (h : postbagref02_value0.f a0 a1 = some r) :
  Calls Tryz.prog 93 #[.int .u32 a0, .int .i64 a1] w fun e w' => e = .returned (.int .i64 r) ∧ Drawn0 w w' := by
 have H := h
 clear h
 unfold postbagref02_value0.f at H
 by_cases c3 : a1 = 1
 ·rw [if_pos c3] at H
  obtain ⟨c3b0, c3b1⟩ := bqt c3
  clear c3
  obtain ⟨t232, A4, H⟩ := bam H
  try dsimp only at H
  replace H := Option.bind_eq_some_iff.mp H
  obtain ⟨t233, A50, H⟩ := H
  replace H : (some t233) = some r := H
  have A5 := am A50
  clear A50
  obtain rfl := Option.some.inj H
  go_enter Tryz.func93, Tryz.ntmps93
  go_wp2_with (first | ((with_reducible refine gate_callee (f := 94) rfl ?_); refine gl (some 9) rfl rfl Tryz.func94 rfl #[.int .u32 a0, .int .i64 12, .int .i64 20] rfl ?_; (with_reducible refine (postbagref02_field.calls a0 12 20 t232 _ A4.out).mono ?_); rintro e w' ⟨rfl, ⟨nd, rfl⟩⟩; refine ⟨_, rfl, ?_⟩) | ((with_reducible refine gate_callee (f := 118) rfl ?_); refine gl (some 11) rfl rfl Tryz.func118 rfl #[.int .u64 (IntKind.u64.wrap (t232 * 4096)), .int .i64 32] rfl ?_; (with_reducible refine (postbagref02_signed.calls (IntKind.u64.wrap (t232 * 4096)) 32 t233 _ A5.out).mono ?_); rintro e w' ⟨rfl, ⟨nd, rfl⟩⟩; refine ⟨_, rfl, ?_⟩))
  go_ret
  exact fd
 ·rw [if_neg c3] at H
  obtain ⟨c3b0, c3b1⟩ := bqf c3
  by_cases c6 : a1 = 2
  ·rw [if_pos c6] at H
   obtain ⟨c6b0, c6b1⟩ := bqt c6
   clear c6
   obtain ⟨t234, A7, H⟩ := bam H
   try dsimp only at H
   obtain ⟨t235, A8, H⟩ := bam H
   try dsimp only at H
   obtain ⟨t236, A9, H⟩ := bam H
   try dsimp only at H
   obtain ⟨t237, A10, H⟩ := bam H
   try dsimp only at H
   replace H := Option.bind_eq_some_iff.mp H
   obtain ⟨t238, A110, H⟩ := H
   replace H : (some t238) = some r := H
   have A11 := am A110
   clear A110
   obtain rfl := Option.some.inj H
   go_enter Tryz.func93, Tryz.ntmps93
   go_wp2_with (first | ((with_reducible refine gate_callee (f := 94) rfl ?_); refine gl (some 15) rfl rfl Tryz.func94 rfl #[.int .u32 a0, .int .i64 31, .int .i64 1] rfl ?_; (with_reducible refine (postbagref02_field.calls a0 31 1 t234 _ A7.out).mono ?_); rintro e w' ⟨rfl, ⟨nd, rfl⟩⟩; refine ⟨_, rfl, ?_⟩) | ((with_reducible refine gate_callee (f := 94) rfl ?_); refine gl (some 18) rfl rfl Tryz.func94 rfl #[.int .u32 a0, .int .i64 12, .int .i64 8] rfl ?_; (with_reducible refine (postbagref02_field.calls a0 12 8 t235 _ A8.out).mono ?_); rintro e w' ⟨rfl, ⟨nd, rfl⟩⟩; refine ⟨_, rfl, ?_⟩) | ((with_reducible refine gate_callee (f := 94) rfl ?_); refine gl (some 22) rfl rfl Tryz.func94 rfl #[.int .u32 a0, .int .i64 20, .int .i64 1] rfl ?_; (with_reducible refine (postbagref02_field.calls a0 20 1 t236 _ A9.out).mono ?_); rintro e w' ⟨rfl, ⟨nd, rfl⟩⟩; refine ⟨_, rfl, ?_⟩) | ((with_reducible refine gate_callee (f := 94) rfl ?_); refine gl (some 26) rfl rfl Tryz.func94 rfl #[.int .u32 a0, .int .i64 21, .int .i64 10] rfl ?_; (with_reducible refine (postbagref02_field.calls a0 21 10 t237 _ A10.out).mono ?_); rintro e w' ⟨rfl, ⟨nd, rfl⟩⟩; refine ⟨_, rfl, ?_⟩) | ((with_reducible refine gate_callee (f := 118) rfl ?_); refine gl (some 29) rfl rfl Tryz.func118 rfl #[.int .u64 (IntKind.u64.wrap ((IntKind.u64.wrap ((IntKind.u64.wrap ((IntKind.u64.wrap (t234 * 1048576)) + (IntKind.u64.wrap (t235 * 4096)))) + (IntKind.u64.wrap (t236 * 2048)))) + (IntKind.u64.wrap (t237 * 2)))), .int .i64 21] rfl ?_; (with_reducible refine (postbagref02_signed.calls (IntKind.u64.wrap ((IntKind.u64.wrap ((IntKind.u64.wrap ((IntKind.u64.wrap (t234 * 1048576)) + (IntKind.u64.wrap (t235 * 4096)))) + (IntKind.u64.wrap (t236 * 2048)))) + (IntKind.u64.wrap (t237 * 2)))) 21 t238 _ A11.out).mono ?_); rintro e w' ⟨rfl, ⟨nd, rfl⟩⟩; refine ⟨_, rfl, ?_⟩))
   go_ret
   exact fd
  ·rw [if_neg c6] at H
   obtain ⟨c6b0, c6b1⟩ := bqf c6
   by_cases c12 : a1 = 3
   ·rw [if_pos c12] at H
    obtain ⟨c12b0, c12b1⟩ := bqt c12
    clear c12
    obtain ⟨t239, A13, H⟩ := bam H
    try dsimp only at H
    replace H := Option.bind_eq_some_iff.mp H
    obtain ⟨t240, A140, H⟩ := H
    replace H : (some t240) = some r := H
    have A14 := am A140
    clear A140
    obtain rfl := Option.some.inj H
    go_enter Tryz.func93, Tryz.ntmps93
    go_wp2_with (first | ((with_reducible refine gate_callee (f := 94) rfl ?_); refine gl (some 33) rfl rfl Tryz.func94 rfl #[.int .u32 a0, .int .i64 20, .int .i64 12] rfl ?_; (with_reducible refine (postbagref02_field.calls a0 20 12 t239 _ A13.out).mono ?_); rintro e w' ⟨rfl, ⟨nd, rfl⟩⟩; refine ⟨_, rfl, ?_⟩) | ((with_reducible refine gate_callee (f := 118) rfl ?_); refine gl (some 34) rfl rfl Tryz.func118 rfl #[.int .u64 t239, .int .i64 12] rfl ?_; (with_reducible refine (postbagref02_signed.calls t239 12 t240 _ A14.out).mono ?_); rintro e w' ⟨rfl, ⟨nd, rfl⟩⟩; refine ⟨_, rfl, ?_⟩))
    go_ret
    exact fd
   ·rw [if_neg c12] at H
    obtain ⟨c12b0, c12b1⟩ := bqf c12
    by_cases c15 : a1 = 4
    ·rw [if_pos c15] at H
     obtain ⟨c15b0, c15b1⟩ := bqt c15
     clear c15
     obtain ⟨t241, A16, H⟩ := bam H
     try dsimp only at H
     obtain ⟨t242, A17, H⟩ := bam H
     try dsimp only at H
     obtain ⟨t243, A18, H⟩ := bam H
     try dsimp only at H
     obtain ⟨t244, A19, H⟩ := bam H
     try dsimp only at H
     replace H := Option.bind_eq_some_iff.mp H
     obtain ⟨t245, A200, H⟩ := H
     replace H : (some t245) = some r := H
     have A20 := am A200
     clear A200
     obtain rfl := Option.some.inj H
     go_enter Tryz.func93, Tryz.ntmps93
     go_wp2_with (first | ((with_reducible refine gate_callee (f := 94) rfl ?_); refine gl (some 38) rfl rfl Tryz.func94 rfl #[.int .u32 a0, .int .i64 31, .int .i64 1] rfl ?_; (with_reducible refine (postbagref02_field.calls a0 31 1 t241 _ A16.out).mono ?_); rintro e w' ⟨rfl, ⟨nd, rfl⟩⟩; refine ⟨_, rfl, ?_⟩) | ((with_reducible refine gate_callee (f := 94) rfl ?_); refine gl (some 41) rfl rfl Tryz.func94 rfl #[.int .u32 a0, .int .i64 7, .int .i64 1] rfl ?_; (with_reducible refine (postbagref02_field.calls a0 7 1 t242 _ A17.out).mono ?_); rintro e w' ⟨rfl, ⟨nd, rfl⟩⟩; refine ⟨_, rfl, ?_⟩) | ((with_reducible refine gate_callee (f := 94) rfl ?_); refine gl (some 45) rfl rfl Tryz.func94 rfl #[.int .u32 a0, .int .i64 25, .int .i64 6] rfl ?_; (with_reducible refine (postbagref02_field.calls a0 25 6 t243 _ A18.out).mono ?_); rintro e w' ⟨rfl, ⟨nd, rfl⟩⟩; refine ⟨_, rfl, ?_⟩) | ((with_reducible refine gate_callee (f := 94) rfl ?_); refine gl (some 49) rfl rfl Tryz.func94 rfl #[.int .u32 a0, .int .i64 8, .int .i64 4] rfl ?_; (with_reducible refine (postbagref02_field.calls a0 8 4 t244 _ A19.out).mono ?_); rintro e w' ⟨rfl, ⟨nd, rfl⟩⟩; refine ⟨_, rfl, ?_⟩) | ((with_reducible refine gate_callee (f := 118) rfl ?_); refine gl (some 52) rfl rfl Tryz.func118 rfl #[.int .u64 (IntKind.u64.wrap ((IntKind.u64.wrap ((IntKind.u64.wrap ((IntKind.u64.wrap (t241 * 4096)) + (IntKind.u64.wrap (t242 * 2048)))) + (IntKind.u64.wrap (t243 * 32)))) + (IntKind.u64.wrap (t244 * 2)))), .int .i64 13] rfl ?_; (with_reducible refine (postbagref02_signed.calls (IntKind.u64.wrap ((IntKind.u64.wrap ((IntKind.u64.wrap ((IntKind.u64.wrap (t241 * 4096)) + (IntKind.u64.wrap (t242 * 2048)))) + (IntKind.u64.wrap (t243 * 32)))) + (IntKind.u64.wrap (t244 * 2)))) 13 t245 _ A20.out).mono ?_); rintro e w' ⟨rfl, ⟨nd, rfl⟩⟩; refine ⟨_, rfl, ?_⟩))
     go_ret
     exact fd
    ·rw [if_neg c15] at H
     obtain ⟨c15b0, c15b1⟩ := bqf c15
     by_cases c21 : a1 = 5
     ·rw [if_pos c21] at H
      obtain ⟨c21b0, c21b1⟩ := bqt c21
      clear c21
      obtain ⟨t246, A22, H⟩ := bam H
      try dsimp only at H
      obtain ⟨t247, A23, H⟩ := bam H
      try dsimp only at H
      replace H := Option.bind_eq_some_iff.mp H
      obtain ⟨t248, A240, H⟩ := H
      replace H : (some t248) = some r := H
      have A24 := am A240
      clear A240
      obtain rfl := Option.some.inj H
      go_enter Tryz.func93, Tryz.ntmps93
      go_wp2_with (first | ((with_reducible refine gate_callee (f := 94) rfl ?_); refine gl (some 56) rfl rfl Tryz.func94 rfl #[.int .u32 a0, .int .i64 25, .int .i64 7] rfl ?_; (with_reducible refine (postbagref02_field.calls a0 25 7 t246 _ A22.out).mono ?_); rintro e w' ⟨rfl, ⟨nd, rfl⟩⟩; refine ⟨_, rfl, ?_⟩) | ((with_reducible refine gate_callee (f := 94) rfl ?_); refine gl (some 59) rfl rfl Tryz.func94 rfl #[.int .u32 a0, .int .i64 7, .int .i64 5] rfl ?_; (with_reducible refine (postbagref02_field.calls a0 7 5 t247 _ A23.out).mono ?_); rintro e w' ⟨rfl, ⟨nd, rfl⟩⟩; refine ⟨_, rfl, ?_⟩) | ((with_reducible refine gate_callee (f := 118) rfl ?_); refine gl (some 61) rfl rfl Tryz.func118 rfl #[.int .u64 (IntKind.u64.wrap ((IntKind.u64.wrap (t246 * 32)) + t247)), .int .i64 12] rfl ?_; (with_reducible refine (postbagref02_signed.calls (IntKind.u64.wrap ((IntKind.u64.wrap (t246 * 32)) + t247)) 12 t248 _ A24.out).mono ?_); rintro e w' ⟨rfl, ⟨nd, rfl⟩⟩; refine ⟨_, rfl, ?_⟩))
      go_ret
      exact fd
     ·rw [if_neg c21] at H
      obtain ⟨c21b0, c21b1⟩ := bqf c21
      by_cases c25 : a1 = 6
      ·rw [if_pos c25] at H
       obtain ⟨c25b0, c25b1⟩ := bqt c25
       clear c25
       obtain ⟨t249, A26, H⟩ := bam H
       try dsimp only at H
       obtain rfl := Option.some.inj H
       go_enter Tryz.func93, Tryz.ntmps93
       go_wp2_with (first | ((with_reducible refine gate_callee (f := 94) rfl ?_); refine gl (some 65) rfl rfl Tryz.func94 rfl #[.int .u32 a0, .int .i64 20, .int .i64 6] rfl ?_; (with_reducible refine (postbagref02_field.calls a0 20 6 t249 _ A26.out).mono ?_); rintro e w' ⟨rfl, ⟨nd, rfl⟩⟩; refine ⟨_, rfl, ?_⟩))
       go_ret
       exact fd
      ·rw [if_neg c25] at H
       obtain ⟨c25b0, c25b1⟩ := bqf c25
       by_cases c27 : a1 = 7
       ·rw [if_pos c27] at H
        obtain ⟨c27b0, c27b1⟩ := bqt c27
        clear c27
        obtain ⟨t250, A28, H⟩ := bam H
        try dsimp only at H
        obtain rfl := Option.some.inj H
        go_enter Tryz.func93, Tryz.ntmps93
        go_wp2_with (first | ((with_reducible refine gate_callee (f := 94) rfl ?_); refine gl (some 70) rfl rfl Tryz.func94 rfl #[.int .u32 a0, .int .i64 20, .int .i64 5] rfl ?_; (with_reducible refine (postbagref02_field.calls a0 20 5 t250 _ A28.out).mono ?_); rintro e w' ⟨rfl, ⟨nd, rfl⟩⟩; refine ⟨_, rfl, ?_⟩))
        go_ret
        exact fd
       ·rw [if_neg c27] at H
        obtain ⟨c27b0, c27b1⟩ := bqf c27
        by_cases c29 : a1 = 9
        ·rw [if_pos c29] at H
         obtain ⟨c29b0, c29b1⟩ := bqt c29
         clear c29
         obtain ⟨t251, A30, H⟩ := bam H
         try dsimp only at H
         obtain rfl := Option.some.inj H
         go_enter Tryz.func93, Tryz.ntmps93
         go_wp2_with (first | ((with_reducible refine gate_callee (f := 94) rfl ?_); refine gl (some 75) rfl rfl Tryz.func94 rfl #[.int .u32 a0, .int .i64 20, .int .i64 8] rfl ?_; (with_reducible refine (postbagref02_field.calls a0 20 8 t251 _ A30.out).mono ?_); rintro e w' ⟨rfl, ⟨nd, rfl⟩⟩; refine ⟨_, rfl, ?_⟩))
         go_ret
         exact fd
        ·rw [if_neg c29] at H
         obtain ⟨c29b0, c29b1⟩ := bqf c29
         obtain rfl := Option.some.inj H
         go_enter Tryz.func93, Tryz.ntmps93
         go_wp2
         go_ret
         exact fd
def postbagref02_value.f (a0 : Int) (a1 : Int) : Option (Int) := if 0 ≤ a0 ∧ a0 < 4294967296 then some (decImm a1 a0) else none
theorem postbagref02_value.spec (a0 a1 r : Int) (h : postbagref02_value.f a0 a1 = some r) : postbagref02_value0.f a0 a1 = some r := by
 unfold postbagref02_value.f at h
 split at h
 ·rename_i hc
  rw [← h]; clear h
  have pt : ∀ (low n : Nat), 1 ≤ n → low + n ≤ 64 → postbagref02_field.f a0 low n = some (a0 / 2 ^ low % 2 ^ n) := by
   intro low n h1 h2
   unfold postbagref02_field.f; rw [if_pos ⟨by omega, by omega, by omega, by omega, by omega⟩]; simp
  have q1 := pt 12 20 (by omega) (by omega)
  have q2 := pt 31 1 (by omega) (by omega)
  have q3 := pt 12 8 (by omega) (by omega)
  have q4 := pt 20 1 (by omega) (by omega)
  have q5 := pt 21 10 (by omega) (by omega)
  have q6 := pt 20 12 (by omega) (by omega)
  have q7 := pt 7 1 (by omega) (by omega)
  have q8 := pt 25 6 (by omega) (by omega)
  have q9 := pt 8 4 (by omega) (by omega)
  have q10 := pt 25 7 (by omega) (by omega)
  have q11 := pt 7 5 (by omega) (by omega)
  have q12 := pt 20 6 (by omega) (by omega)
  have q13 := pt 20 5 (by omega) (by omega)
  have q14 := pt 20 8 (by omega) (by omega)
  simp only [Int.reducePow, Int.cast_ofNat_Int] at q1 q2 q3 q4 q5 q6 q7 q8 q9 q10 q11 q12 q13 q14
  have sg : ∀ x n : Int, 0 ≤ x → x < 4294967296 → postbagref02_signed.f x n = some (wrap64 (signOf x n)) := by
   intro x n h0 h1; unfold postbagref02_signed.f; rw [if_pos (by unfold U64; omega)]
  have uw : ∀ x : Int, 0 ≤ x → x < 4294967296 → IntKind.u64.wrap x = x := by intro x h0 h1; rw [u64w]; omega
  have ww : ∀ x : Int, 0 ≤ x → x < 4294967296 → wrap64 x = x := by intro x h0 h1; unfold wrap64; omega
  unfold postbagref02_value0.f
  by_cases h1 : a1 = 1
  ·subst h1
   rw [if_pos rfl, q1]; simp only [Option.bind_some]
   rw [uw _ (by omega) (by omega), sg _ _ (by omega) (by omega)]; simp [decImm, widthOf, rawImm]
  by_cases h2 : a1 = 2
  ·subst h2
   rw [if_neg (by omega), if_pos rfl, q2, q3, q4, q5]; simp only [Option.bind_some]
   rw [uw (a0 / 2147483648 % 2 * 1048576) (by omega) (by omega), uw (a0 / 4096 % 256 * 4096) (by omega) (by omega), uw (a0 / 1048576 % 2 * 2048) (by omega) (by omega), uw (a0 / 2097152 % 1024 * 2) (by omega) (by omega)]
   rw [uw (a0 / 2147483648 % 2 * 1048576 + a0 / 4096 % 256 * 4096) (by omega) (by omega), uw (a0 / 2147483648 % 2 * 1048576 + a0 / 4096 % 256 * 4096 + a0 / 1048576 % 2 * 2048) (by omega) (by omega), uw _ (by omega) (by omega), sg _ _ (by omega) (by omega)]; simp [decImm, widthOf, rawImm]
  by_cases h3 : a1 = 3
  ·subst h3
   rw [if_neg (by omega), if_neg (by omega), if_pos rfl, q6]; simp only [Option.bind_some]
   rw [sg _ _ (by omega) (by omega)]; simp [decImm, widthOf, rawImm]
  by_cases h4 : a1 = 4
  ·subst h4
   rw [if_neg (by omega), if_neg (by omega), if_neg (by omega), if_pos rfl, q2, q7, q8, q9]; simp only [Option.bind_some]
   rw [uw (a0 / 2147483648 % 2 * 4096) (by omega) (by omega), uw (a0 / 128 % 2 * 2048) (by omega) (by omega), uw (a0 / 33554432 % 64 * 32) (by omega) (by omega), uw (a0 / 256 % 16 * 2) (by omega) (by omega)]
   rw [uw (a0 / 2147483648 % 2 * 4096 + a0 / 128 % 2 * 2048) (by omega) (by omega), uw (a0 / 2147483648 % 2 * 4096 + a0 / 128 % 2 * 2048 + a0 / 33554432 % 64 * 32) (by omega) (by omega), uw _ (by omega) (by omega), sg _ _ (by omega) (by omega)]; simp [decImm, widthOf, rawImm]
  by_cases h5 : a1 = 5
  ·subst h5
   rw [if_neg (by omega), if_neg (by omega), if_neg (by omega), if_neg (by omega), if_pos rfl, q10, q11]; simp only [Option.bind_some]
   rw [uw (a0 / 33554432 % 128 * 32) (by omega) (by omega), uw _ (by omega) (by omega), sg _ _ (by omega) (by omega)]; simp [decImm, widthOf, rawImm]
  by_cases h6 : a1 = 6
  ·subst h6
   rw [if_neg (by omega), if_neg (by omega), if_neg (by omega), if_neg (by omega), if_neg (by omega), if_pos rfl, q12]; simp only [Option.bind_some]
   rw [ww _ (by omega) (by omega)]; simp [decImm, widthOf, rawImm]
  by_cases h7 : a1 = 7
  ·subst h7
   rw [if_neg (by omega), if_neg (by omega), if_neg (by omega), if_neg (by omega), if_neg (by omega), if_neg (by omega), if_pos rfl, q13]; simp only [Option.bind_some]
   rw [ww _ (by omega) (by omega)]; simp [decImm, widthOf, rawImm]
  by_cases h9 : a1 = 9
  ·subst h9
   rw [if_neg (by omega), if_neg (by omega), if_neg (by omega), if_neg (by omega), if_neg (by omega), if_neg (by omega), if_neg (by omega), if_pos rfl, q14]; simp only [Option.bind_some]
   rw [ww _ (by omega) (by omega)]; simp [decImm, widthOf, rawImm]
  rw [if_neg h1, if_neg h2, if_neg h3, if_neg h4, if_neg h5, if_neg h6, if_neg h7, if_neg h9]
  simp [decImm, widthOf, rawImm, h1, h2, h3, h4, h5, h6, h7, h9]
 ·simp at h
theorem postbagref02_value.calls (a0 : Int) (a1 : Int) (r : Int) (w : World) (h : postbagref02_value.f a0 a1 = some r) :
  Calls Tryz.prog 93 #[.int .u32 a0, .int .i64 a1] w fun e w' => e = .returned (.int .i64 r) ∧ Drawn0 w w' := by
 have hk := postbagref02_value.spec a0 a1 r h
 exact postbagref02_value0.calls a0 a1 r w hk
mutual
def postbagref02_as0.j0 : Nat → Int → Bool → Bool → Bool → Bool → Bool → Int → Int → Int → Int → Int → Bool → Bool → Option (Int × Int × Int × Int × Int × Bool × Bool)
 | 0, _, _, _, _, _, _, _, _, _, _, _, _, _ => none
 | k + 1, x1, x263000, x263001, x263002, x263003, x263004, x265000, x265001, x265002, x265003, x265004, x265005, x265006 => if x263001 = true then ((postbagref02_field.f x1 15 5).bind fun t266 => (postbagref02_as0.j1 k x1 x263000 x263001 x263002 x263003 x263004 x265000 x265001 (wrap64 (t266)) x265003 x265004 x265005 x265006)) else (postbagref02_as0.j1 k x1 x263000 x263001 x263002 x263003 x263004 x265000 x265001 x265002 x265003 x265004 x265005 x265006)
def postbagref02_as0.j1 : Nat → Int → Bool → Bool → Bool → Bool → Bool → Int → Int → Int → Int → Int → Bool → Bool → Option (Int × Int × Int × Int × Int × Bool × Bool)
 | 0, _, _, _, _, _, _, _, _, _, _, _, _, _ => none
 | k + 1, x1, x263000, x263001, x263002, x263003, x263004, x265000, x265001, x265002, x265003, x265004, x265005, x265006 => if x263002 = true then ((postbagref02_field.f x1 20 5).bind fun t267 => (postbagref02_as0.j2 k x1 x263000 x263001 x263002 x263003 x263004 x265000 x265001 x265002 (wrap64 (t267)) x265004 x265005 x265006)) else (postbagref02_as0.j2 k x1 x263000 x263001 x263002 x263003 x263004 x265000 x265001 x265002 x265003 x265004 x265005 x265006)
def postbagref02_as0.j2 : Nat → Int → Bool → Bool → Bool → Bool → Bool → Int → Int → Int → Int → Int → Bool → Bool → Option (Int × Int × Int × Int × Int × Bool × Bool)
 | 0, _, _, _, _, _, _, _, _, _, _, _, _, _ => none
 | k + 1, x1, x263000, x263001, x263002, x263003, x263004, x265000, x265001, x265002, x265003, x265004, x265005, x265006 => if x263004 = true then ((postbagref02_field.f x1 26 1).bind fun t268 => ((postbagref02_field.f x1 25 1).bind fun t269 => (some (x265000, x265001, x265002, x265003, x265004, (t268 == 1), (t269 == 1))))) else (some (x265000, x265001, x265002, x265003, x265004, x265005, x265006))
end
def postbagref02_as0.f (k : Nat) (a0 : Int) (a1 : Int) : Option (Int × Int × Int × Int × Int × Bool × Bool) := (postbagref02_Row.f a0).bind fun bt253 => ((postbagref02_has.f bt253.1).bind fun bt257 => ((postbagref02_value.f a1 bt253.1).bind fun t263 => (if bt257.1 = true then ((postbagref02_field.f a1 7 5).bind fun t265 => (postbagref02_as0.j0 k a1 bt257.1 bt257.2.1 bt257.2.2.1 bt257.2.2.2.1 bt257.2.2.2.2 a0 (wrap64 (t265)) 0 0 t263 false false)) else (postbagref02_as0.j0 k a1 bt257.1 bt257.2.1 bt257.2.2.1 bt257.2.2.2.1 bt257.2.2.2.2 a0 0 0 0 t263 false false))))
theorem postbagref02_as0.mono_l : ∀ k, (∀ y0 y1 y2 y3 y4 y5 y6 y7 y8 y9 y10 y11 y12, LeO (postbagref02_as0.j0 k y0 y1 y2 y3 y4 y5 y6 y7 y8 y9 y10 y11 y12) (postbagref02_as0.j0 (k + 1) y0 y1 y2 y3 y4 y5 y6 y7 y8 y9 y10 y11 y12)) ∧ (∀ y0 y1 y2 y3 y4 y5 y6 y7 y8 y9 y10 y11 y12, LeO (postbagref02_as0.j1 k y0 y1 y2 y3 y4 y5 y6 y7 y8 y9 y10 y11 y12) (postbagref02_as0.j1 (k + 1) y0 y1 y2 y3 y4 y5 y6 y7 y8 y9 y10 y11 y12)) ∧ (∀ y0 y1 y2 y3 y4 y5 y6 y7 y8 y9 y10 y11 y12, LeO (postbagref02_as0.j2 k y0 y1 y2 y3 y4 y5 y6 y7 y8 y9 y10 y11 y12) (postbagref02_as0.j2 (k + 1) y0 y1 y2 y3 y4 y5 y6 y7 y8 y9 y10 y11 y12))
 | 0 => ⟨fun _ _ _ _ _ _ _ _ _ _ _ _ _ r h => by simp [postbagref02_as0.j0] at h, fun _ _ _ _ _ _ _ _ _ _ _ _ _ r h => by simp [postbagref02_as0.j1] at h, fun _ _ _ _ _ _ _ _ _ _ _ _ _ r h => by simp [postbagref02_as0.j2] at h⟩
 | k + 1 => by
  obtain ⟨ih0, ih1, ih2⟩ := postbagref02_as0.mono_l k
  refine ⟨?_, ?_, ?_⟩
  ·intro y0 y1 y2 y3 y4 y5 y6 y7 y8 y9 y10 y11 y12
   unfold postbagref02_as0.j0
   exact leo
  ·intro y0 y1 y2 y3 y4 y5 y6 y7 y8 y9 y10 y11 y12
   unfold postbagref02_as0.j1
   exact leo
  ·intro y0 y1 y2 y3 y4 y5 y6 y7 y8 y9 y10 y11 y12
   unfold postbagref02_as0.j2
   exact leo
theorem postbagref02_as0.mono : ∀ a0 a1 k, LeO (postbagref02_as0.f k a0 a1) (postbagref02_as0.f (k + 1) a0 a1) := by
 intro a0 a1 k
 obtain ⟨ih0, ih1, ih2⟩ := postbagref02_as0.mono_l k
 unfold postbagref02_as0.f
 exact leo
set_option maxHeartbeats 8000000 in
set_option maxRecDepth 100000 in
theorem postbagref02_as0.calls (k : Nat) (a0 : Int) (a1 : Int) (r1 : Int) (r2 : Int) (r3 : Int) (r4 : Int) (r5 : Int) (r6 : Bool) (r7 : Bool) (w : World) (h : postbagref02_as0.f k a0 a1 = some (r1, r2, r3, r4, r5, r6, r7)) :
  Calls Tryz.prog 60 #[.int .i64 a0, .int .u32 a1] w fun e w' => e = .returned (.agg #[.int .i64 r1, .int .i64 r2, .int .i64 r3, .int .i64 r4, .int .i64 r5, .bool r6, .bool r7]) ∧ Below w.heap.size w w' := by
 have hu50 := Tryz.underlying50
 have hu121 := Tryz.underlying121
 have hix111_0 : ∀ (x0_ x1_ x2_ x3_ : Value) (W : World), (Instr.index 111 (.agg #[x0_, x1_, x2_, x3_]) (.int .i64 0)).run Tryz.prog W = .ok x0_ W := fun x0_ x1_ x2_ x3_ W => by kernel_rfl
 have HB := am (Below.refl w.heap.size w)
 have H := h
 clear h
 unfold postbagref02_as0.f at H
 obtain ⟨⟨t253, t254, t255, t256⟩, A3, H⟩ := bam H
 try dsimp only at H
 obtain ⟨⟨t257, t258, t259, t260, t261⟩, A4, H⟩ := bam H
 try dsimp only at H
 obtain ⟨t263, A5, H⟩ := bam H
 try dsimp only at H
 have HC6 := am H
 clear H
 go_enter Tryz.func60, Tryz.ntmps60
 go_upto_if 19 with (first | ((with_reducible refine gate_dst (N := 4) rfl ?_); refine be 4 50 #[.int .i64 0, .int .i64 0, .int .i64 0, .int .i64 0, .int .i64 0, .bool false, .bool false] ?_; intro gb252 hg w7 hbox hb; have BK252 := am hbox; have GW252 := bz HB hg; have GE252 := bz HB hg; replace HB := bn HB hb; clear hb hbox hg) | ((with_reducible refine gate_callee (f := 69) rfl ?_); refine gl (some 9) rfl rfl Tryz.func69 rfl #[.int .i64 a0] rfl ?_; (with_reducible refine (postbagref02_Row.calls a0 t253 t254 t255 t256 _ A3.out).mono ?_); rintro e w8 ⟨rfl, hb⟩; refine ⟨_, rfl, ?_⟩; replace BK252 := bk BK252 hb; replace HB := bns HB GE252 hb; (try clear hb); (try clear hb2); (try clear hk); (try clear hi)) | ((with_reducible refine gate_callee (f := 92) rfl ?_); refine gl (some 12) rfl rfl Tryz.func92 rfl #[.int .i64 t253] rfl ?_; (with_reducible refine (postbagref02_has.calls t253 t257 t258 t259 t260 t261 _ A4.out).mono ?_); rintro e w9 ⟨rfl, hb⟩; refine ⟨_, rfl, ?_⟩; replace BK252 := bk BK252 hb; replace HB := bns HB GE252 hb; (try clear hb); (try clear hb2); (try clear hk); (try clear hi)) | ((with_reducible refine gate_dst (N := 6) rfl ?_); refine be 6 121 #[.bool false, .bool false, .bool false, .bool false, .bool false] ?_; intro gb262 hg w10 hbox hb; have BK262 := am hbox; have GW262 := bzs HB GE252 hg; have GE262 := bzs HB GE252 hg; have NB252_262 := nl BK252 hg; have NB262_252 := ng BK252 hg; replace BK252 := bk BK252 hb; replace HB := bns HB GE252 hb; clear hb hbox hg; have hnb11 := NB262_252.out; have hnc11 := NB252_262.out; obtain ⟨z12_0, z12_1, z12_2, z12_3, z12_4, f12_0, f12_1, f12_2, f12_3, f12_4⟩ := cf5 BK262) | ((with_reducible refine gate_callee (f := 93) rfl ?_); refine gl (some 16) rfl rfl Tryz.func93 rfl #[.int .u32 a1, .int .i64 t253] rfl ?_; (with_reducible refine (postbagref02_value.calls a1 t253 t263 _ A5.out).mono ?_); rintro e w' ⟨rfl, ⟨nd, rfl⟩⟩; refine ⟨_, rfl, ?_⟩) | ((with_reducible refine gate_dst (N := 7) rfl ?_); refine be 7 50 #[.int .i64 0, .int .i64 0, .int .i64 0, .int .i64 0, .int .i64 0, .bool false, .bool false] ?_; intro gb264 hg w13 hbox hb; have n0_ := am (blk_below (g := gb252) (o := .cells #[.int .i64 0, .int .i64 0, .int .i64 0, .int .i64 0, .int .i64 0, .bool false, .bool false] 50 (0, 0)) (by (with_reducible repeat (first | refine blk_drewN ?_ _ | refine blk_drew ?_ | refine blk_alloc ?_ _)); refine blk_far ?_ NB252_262.out _; (with_reducible repeat (first | refine blk_drewN ?_ _ | refine blk_drew ?_ | refine blk_alloc ?_ _)); refine blk_far ?_ NB252_262.out _; (with_reducible repeat (first | refine blk_drewN ?_ _ | refine blk_drew ?_ | refine blk_alloc ?_ _)); refine blk_far ?_ NB252_262.out _; (with_reducible repeat (first | refine blk_drewN ?_ _ | refine blk_drew ?_ | refine blk_alloc ?_ _)); refine blk_far ?_ NB252_262.out _; (with_reducible repeat (first | refine blk_drewN ?_ _ | refine blk_drew ?_ | refine blk_alloc ?_ _)); refine blk_far ?_ NB252_262.out _; (with_reducible repeat (first | refine blk_drewN ?_ _ | refine blk_drew ?_ | refine blk_alloc ?_ _)); exact BK252.out) hb); have n1_ := am (blk_below (g := gb262) (o := .cells #[.bool t257, .bool t258, .bool t259, .bool t260, .bool t261] 121 (0, 0)) (by (with_reducible repeat (first | refine blk_drewN ?_ _ | refine blk_drew ?_ | refine blk_alloc ?_ _)); refine blk_put (cs := #[.bool t257, .bool t258, .bool t259, .bool t260, .bool false]) ?_ 4 _ rfl; (with_reducible repeat (first | refine blk_drewN ?_ _ | refine blk_drew ?_ | refine blk_alloc ?_ _)); refine blk_put (cs := #[.bool t257, .bool t258, .bool t259, .bool false, .bool false]) ?_ 3 _ rfl; (with_reducible repeat (first | refine blk_drewN ?_ _ | refine blk_drew ?_ | refine blk_alloc ?_ _)); refine blk_put (cs := #[.bool t257, .bool t258, .bool false, .bool false, .bool false]) ?_ 2 _ rfl; (with_reducible repeat (first | refine blk_drewN ?_ _ | refine blk_drew ?_ | refine blk_alloc ?_ _)); refine blk_put (cs := #[.bool t257, .bool false, .bool false, .bool false, .bool false]) ?_ 1 _ rfl; (with_reducible repeat (first | refine blk_drewN ?_ _ | refine blk_drew ?_ | refine blk_alloc ?_ _)); refine blk_put (cs := #[.bool false, .bool false, .bool false, .bool false, .bool false]) ?_ 0 _ rfl; (with_reducible repeat (first | refine blk_drewN ?_ _ | refine blk_drew ?_ | refine blk_alloc ?_ _)); exact BK262.out) hb); have n2_ := bns2 HB GE252 GE262 hb; have n3_ := am hbox; have n4_ := bzs2 HB GE252 GE262 hg; have n5_ := bzs2 HB GE252 GE262 hg; have n6_ := am ((by rw [hg]; exact Nat.ne_of_lt (blk_lt (g := gb252) (o := .cells #[.int .i64 0, .int .i64 0, .int .i64 0, .int .i64 0, .int .i64 0, .bool false, .bool false] 50 (0, 0)) (by (with_reducible repeat (first | refine blk_drewN ?_ _ | refine blk_drew ?_ | refine blk_alloc ?_ _)); refine blk_far ?_ NB252_262.out _; (with_reducible repeat (first | refine blk_drewN ?_ _ | refine blk_drew ?_ | refine blk_alloc ?_ _)); refine blk_far ?_ NB252_262.out _; (with_reducible repeat (first | refine blk_drewN ?_ _ | refine blk_drew ?_ | refine blk_alloc ?_ _)); refine blk_far ?_ NB252_262.out _; (with_reducible repeat (first | refine blk_drewN ?_ _ | refine blk_drew ?_ | refine blk_alloc ?_ _)); refine blk_far ?_ NB252_262.out _; (with_reducible repeat (first | refine blk_drewN ?_ _ | refine blk_drew ?_ | refine blk_alloc ?_ _)); refine blk_far ?_ NB252_262.out _; (with_reducible repeat (first | refine blk_drewN ?_ _ | refine blk_drew ?_ | refine blk_alloc ?_ _)); exact BK252.out)) : gb252 ≠ gb264)); have n7_ := am ((by rw [hg]; exact Nat.ne_of_gt (blk_lt (g := gb252) (o := .cells #[.int .i64 0, .int .i64 0, .int .i64 0, .int .i64 0, .int .i64 0, .bool false, .bool false] 50 (0, 0)) (by (with_reducible repeat (first | refine blk_drewN ?_ _ | refine blk_drew ?_ | refine blk_alloc ?_ _)); refine blk_far ?_ NB252_262.out _; (with_reducible repeat (first | refine blk_drewN ?_ _ | refine blk_drew ?_ | refine blk_alloc ?_ _)); refine blk_far ?_ NB252_262.out _; (with_reducible repeat (first | refine blk_drewN ?_ _ | refine blk_drew ?_ | refine blk_alloc ?_ _)); refine blk_far ?_ NB252_262.out _; (with_reducible repeat (first | refine blk_drewN ?_ _ | refine blk_drew ?_ | refine blk_alloc ?_ _)); refine blk_far ?_ NB252_262.out _; (with_reducible repeat (first | refine blk_drewN ?_ _ | refine blk_drew ?_ | refine blk_alloc ?_ _)); refine blk_far ?_ NB252_262.out _; (with_reducible repeat (first | refine blk_drewN ?_ _ | refine blk_drew ?_ | refine blk_alloc ?_ _)); exact BK252.out)) : gb264 ≠ gb252)); have n8_ := am ((by rw [hg]; exact Nat.ne_of_lt (blk_lt (g := gb262) (o := .cells #[.bool t257, .bool t258, .bool t259, .bool t260, .bool t261] 121 (0, 0)) (by (with_reducible repeat (first | refine blk_drewN ?_ _ | refine blk_drew ?_ | refine blk_alloc ?_ _)); refine blk_put (cs := #[.bool t257, .bool t258, .bool t259, .bool t260, .bool false]) ?_ 4 _ rfl; (with_reducible repeat (first | refine blk_drewN ?_ _ | refine blk_drew ?_ | refine blk_alloc ?_ _)); refine blk_put (cs := #[.bool t257, .bool t258, .bool t259, .bool false, .bool false]) ?_ 3 _ rfl; (with_reducible repeat (first | refine blk_drewN ?_ _ | refine blk_drew ?_ | refine blk_alloc ?_ _)); refine blk_put (cs := #[.bool t257, .bool t258, .bool false, .bool false, .bool false]) ?_ 2 _ rfl; (with_reducible repeat (first | refine blk_drewN ?_ _ | refine blk_drew ?_ | refine blk_alloc ?_ _)); refine blk_put (cs := #[.bool t257, .bool false, .bool false, .bool false, .bool false]) ?_ 1 _ rfl; (with_reducible repeat (first | refine blk_drewN ?_ _ | refine blk_drew ?_ | refine blk_alloc ?_ _)); refine blk_put (cs := #[.bool false, .bool false, .bool false, .bool false, .bool false]) ?_ 0 _ rfl; (with_reducible repeat (first | refine blk_drewN ?_ _ | refine blk_drew ?_ | refine blk_alloc ?_ _)); exact BK262.out)) : gb262 ≠ gb264)); have n9_ := am ((by rw [hg]; exact Nat.ne_of_gt (blk_lt (g := gb262) (o := .cells #[.bool t257, .bool t258, .bool t259, .bool t260, .bool t261] 121 (0, 0)) (by (with_reducible repeat (first | refine blk_drewN ?_ _ | refine blk_drew ?_ | refine blk_alloc ?_ _)); refine blk_put (cs := #[.bool t257, .bool t258, .bool t259, .bool t260, .bool false]) ?_ 4 _ rfl; (with_reducible repeat (first | refine blk_drewN ?_ _ | refine blk_drew ?_ | refine blk_alloc ?_ _)); refine blk_put (cs := #[.bool t257, .bool t258, .bool t259, .bool false, .bool false]) ?_ 3 _ rfl; (with_reducible repeat (first | refine blk_drewN ?_ _ | refine blk_drew ?_ | refine blk_alloc ?_ _)); refine blk_put (cs := #[.bool t257, .bool t258, .bool false, .bool false, .bool false]) ?_ 2 _ rfl; (with_reducible repeat (first | refine blk_drewN ?_ _ | refine blk_drew ?_ | refine blk_alloc ?_ _)); refine blk_put (cs := #[.bool t257, .bool false, .bool false, .bool false, .bool false]) ?_ 1 _ rfl; (with_reducible repeat (first | refine blk_drewN ?_ _ | refine blk_drew ?_ | refine blk_alloc ?_ _)); refine blk_put (cs := #[.bool false, .bool false, .bool false, .bool false, .bool false]) ?_ 0 _ rfl; (with_reducible repeat (first | refine blk_drewN ?_ _ | refine blk_drew ?_ | refine blk_alloc ?_ _)); exact BK262.out)) : gb264 ≠ gb262)); clear BK252; clear BK262; clear HB; have BK252 := n0_; have BK262 := n1_; have HB := n2_; have BK264 := n3_; have GW264 := n4_; have GE264 := n5_; have NB252_264 := n6_; have NB264_252 := n7_; have NB262_264 := n8_; have NB264_262 := n9_; clear n0_ n1_ n2_ n3_ n4_ n5_ n6_ n7_ n8_ n9_; clear hb hbox hg; have hnb14 := NB264_252.out; have hnc14 := NB252_264.out; have hnb15 := NB264_262.out; have hnc15 := NB262_264.out; obtain ⟨z16_0, z16_1, z16_2, z16_3, z16_4, z16_5, z16_6, f16_0, f16_1, f16_2, f16_3, f16_4, f16_5, f16_6⟩ := cf7 BK264; obtain ⟨z17_0, z17_1, z17_2, z17_3, z17_4, f17_0, f17_1, f17_2, f17_3, f17_4⟩ := cf5 BK262))
 (try simp only [Act.put, List.setIfInBounds_toArray, List.set_cons_zero, List.set_cons_succ])
 go_cut [] (fun wc => ∃ (kq : Nat) (x265001_5 : Int), Aside0 (postbagref02_as0.j0 kq a1 t257 t258 t259 t260 t261 a0 x265001_5 0 0 t263 false false = some (r1, r2, r3, r4, r5, r6, r7)) ∧ Aside0 (kq ≤ k) ∧ Aside0 (wc.heap[gb252]? = some (.cells #[.int .i64 0, .int .i64 0, .int .i64 0, .int .i64 0, .int .i64 0, .bool false, .bool false] 50 (0, 0))) ∧ Aside0 (wc.heap[gb262]? = some (.cells #[.bool t257, .bool t258, .bool t259, .bool t260, .bool t261] 121 (0, 0))) ∧ Aside0 (wc.heap[gb264]? = some (.cells #[.int .i64 a0, .int .i64 x265001_5, .int .i64 0, .int .i64 0, .int .i64 t263, .bool false, .bool false] 50 (0, 0))) ∧ Aside0 (Below w.heap.size w wc))
 case first =>
  have H := HC6.out
  clear HC6
  by_cases c18 : t257 = true
  ·subst c18
   rw [if_pos rfl] at H
   obtain ⟨t265, A19, H⟩ := bam H
   try dsimp only at H
   have H' := am H
   clear H
   go_wp2_with (first | ((with_reducible refine gate_callee (f := 94) rfl ?_); refine gl (some 21) rfl rfl Tryz.func94 rfl #[.int .u32 a1, .int .i64 7, .int .i64 5] rfl ?_; (with_reducible refine (postbagref02_field.calls a1 7 5 t265 _ A19.out).mono ?_); rintro e w' ⟨rfl, ⟨nd, rfl⟩⟩; refine ⟨_, rfl, ?_⟩; have hnb20 := NB264_252.out; have hnc20 := NB252_264.out; have hnb21 := NB264_262.out; have hnc21 := NB262_264.out; obtain ⟨z22_0, z22_1, z22_2, z22_3, z22_4, z22_5, z22_6, f22_0, f22_1, f22_2, f22_3, f22_4, f22_5, f22_6⟩ := cf7 BK264))
   go_meet
   case rel => exact ⟨_, (wrap64 (t265)), H', ⟨om⟩, ⟨by (with_reducible repeat (first | refine blk_drewN ?_ _ | refine blk_drew ?_ | refine blk_alloc ?_ _)); refine blk_far ?_ NB252_264.out _; (with_reducible repeat (first | refine blk_drewN ?_ _ | refine blk_drew ?_ | refine blk_alloc ?_ _)); refine blk_far ?_ NB252_264.out _; (with_reducible repeat (first | refine blk_drewN ?_ _ | refine blk_drew ?_ | refine blk_alloc ?_ _)); refine blk_far ?_ NB252_264.out _; (with_reducible repeat (first | refine blk_drewN ?_ _ | refine blk_drew ?_ | refine blk_alloc ?_ _)); refine blk_far ?_ NB252_264.out _; (with_reducible repeat (first | refine blk_drewN ?_ _ | refine blk_drew ?_ | refine blk_alloc ?_ _)); refine blk_far ?_ NB252_264.out _; (with_reducible repeat (first | refine blk_drewN ?_ _ | refine blk_drew ?_ | refine blk_alloc ?_ _)); refine blk_far ?_ NB252_264.out _; (with_reducible repeat (first | refine blk_drewN ?_ _ | refine blk_drew ?_ | refine blk_alloc ?_ _)); refine blk_far ?_ NB252_264.out _; (with_reducible repeat (first | refine blk_drewN ?_ _ | refine blk_drew ?_ | refine blk_alloc ?_ _)); refine blk_far ?_ NB252_264.out _; (with_reducible repeat (first | refine blk_drewN ?_ _ | refine blk_drew ?_ | refine blk_alloc ?_ _)); exact BK252.out⟩, ⟨by (with_reducible repeat (first | refine blk_drewN ?_ _ | refine blk_drew ?_ | refine blk_alloc ?_ _)); refine blk_far ?_ NB262_264.out _; (with_reducible repeat (first | refine blk_drewN ?_ _ | refine blk_drew ?_ | refine blk_alloc ?_ _)); refine blk_far ?_ NB262_264.out _; (with_reducible repeat (first | refine blk_drewN ?_ _ | refine blk_drew ?_ | refine blk_alloc ?_ _)); refine blk_far ?_ NB262_264.out _; (with_reducible repeat (first | refine blk_drewN ?_ _ | refine blk_drew ?_ | refine blk_alloc ?_ _)); refine blk_far ?_ NB262_264.out _; (with_reducible repeat (first | refine blk_drewN ?_ _ | refine blk_drew ?_ | refine blk_alloc ?_ _)); refine blk_far ?_ NB262_264.out _; (with_reducible repeat (first | refine blk_drewN ?_ _ | refine blk_drew ?_ | refine blk_alloc ?_ _)); refine blk_far ?_ NB262_264.out _; (with_reducible repeat (first | refine blk_drewN ?_ _ | refine blk_drew ?_ | refine blk_alloc ?_ _)); refine blk_far ?_ NB262_264.out _; (with_reducible repeat (first | refine blk_drewN ?_ _ | refine blk_drew ?_ | refine blk_alloc ?_ _)); refine blk_far ?_ NB262_264.out _; (with_reducible repeat (first | refine blk_drewN ?_ _ | refine blk_drew ?_ | refine blk_alloc ?_ _)); exact BK262.out⟩, ⟨by (with_reducible repeat (first | refine blk_drewN ?_ _ | refine blk_drew ?_ | refine blk_alloc ?_ _)); refine blk_put (cs := #[.int .i64 a0, .int .i64 0, .int .i64 0, .int .i64 0, .int .i64 t263, .bool false, .bool false]) ?_ 1 _ rfl; (with_reducible repeat (first | refine blk_drewN ?_ _ | refine blk_drew ?_ | refine blk_alloc ?_ _)); refine blk_put (cs := #[.int .i64 a0, .int .i64 0, .int .i64 0, .int .i64 0, .int .i64 t263, .bool false, .bool false]) ?_ 6 _ rfl; (with_reducible repeat (first | refine blk_drewN ?_ _ | refine blk_drew ?_ | refine blk_alloc ?_ _)); refine blk_put (cs := #[.int .i64 a0, .int .i64 0, .int .i64 0, .int .i64 0, .int .i64 t263, .bool false, .bool false]) ?_ 5 _ rfl; (with_reducible repeat (first | refine blk_drewN ?_ _ | refine blk_drew ?_ | refine blk_alloc ?_ _)); refine blk_put (cs := #[.int .i64 a0, .int .i64 0, .int .i64 0, .int .i64 0, .int .i64 0, .bool false, .bool false]) ?_ 4 _ rfl; (with_reducible repeat (first | refine blk_drewN ?_ _ | refine blk_drew ?_ | refine blk_alloc ?_ _)); refine blk_put (cs := #[.int .i64 a0, .int .i64 0, .int .i64 0, .int .i64 0, .int .i64 0, .bool false, .bool false]) ?_ 3 _ rfl; (with_reducible repeat (first | refine blk_drewN ?_ _ | refine blk_drew ?_ | refine blk_alloc ?_ _)); refine blk_put (cs := #[.int .i64 a0, .int .i64 0, .int .i64 0, .int .i64 0, .int .i64 0, .bool false, .bool false]) ?_ 2 _ rfl; (with_reducible repeat (first | refine blk_drewN ?_ _ | refine blk_drew ?_ | refine blk_alloc ?_ _)); refine blk_put (cs := #[.int .i64 a0, .int .i64 0, .int .i64 0, .int .i64 0, .int .i64 0, .bool false, .bool false]) ?_ 1 _ rfl; (with_reducible repeat (first | refine blk_drewN ?_ _ | refine blk_drew ?_ | refine blk_alloc ?_ _)); refine blk_put (cs := #[.int .i64 0, .int .i64 0, .int .i64 0, .int .i64 0, .int .i64 0, .bool false, .bool false]) ?_ 0 _ rfl; (with_reducible repeat (first | refine blk_drewN ?_ _ | refine blk_drew ?_ | refine blk_alloc ?_ _)); exact BK264.out⟩, ⟨bs3 HB GE252 GE262 GE264⟩⟩
  ·replace c18 := Bool.eq_false_iff.mpr c18
   subst c18
   rw [if_neg ff] at H
   have H' := am H
   clear H
   go_wp2
   go_meet
   case rel => exact ⟨_, (0), H', ⟨om⟩, ⟨by (with_reducible repeat (first | refine blk_drewN ?_ _ | refine blk_drew ?_ | refine blk_alloc ?_ _)); refine blk_far ?_ NB252_264.out _; (with_reducible repeat (first | refine blk_drewN ?_ _ | refine blk_drew ?_ | refine blk_alloc ?_ _)); refine blk_far ?_ NB252_264.out _; (with_reducible repeat (first | refine blk_drewN ?_ _ | refine blk_drew ?_ | refine blk_alloc ?_ _)); refine blk_far ?_ NB252_264.out _; (with_reducible repeat (first | refine blk_drewN ?_ _ | refine blk_drew ?_ | refine blk_alloc ?_ _)); refine blk_far ?_ NB252_264.out _; (with_reducible repeat (first | refine blk_drewN ?_ _ | refine blk_drew ?_ | refine blk_alloc ?_ _)); refine blk_far ?_ NB252_264.out _; (with_reducible repeat (first | refine blk_drewN ?_ _ | refine blk_drew ?_ | refine blk_alloc ?_ _)); refine blk_far ?_ NB252_264.out _; (with_reducible repeat (first | refine blk_drewN ?_ _ | refine blk_drew ?_ | refine blk_alloc ?_ _)); refine blk_far ?_ NB252_264.out _; (with_reducible repeat (first | refine blk_drewN ?_ _ | refine blk_drew ?_ | refine blk_alloc ?_ _)); exact BK252.out⟩, ⟨by (with_reducible repeat (first | refine blk_drewN ?_ _ | refine blk_drew ?_ | refine blk_alloc ?_ _)); refine blk_far ?_ NB262_264.out _; (with_reducible repeat (first | refine blk_drewN ?_ _ | refine blk_drew ?_ | refine blk_alloc ?_ _)); refine blk_far ?_ NB262_264.out _; (with_reducible repeat (first | refine blk_drewN ?_ _ | refine blk_drew ?_ | refine blk_alloc ?_ _)); refine blk_far ?_ NB262_264.out _; (with_reducible repeat (first | refine blk_drewN ?_ _ | refine blk_drew ?_ | refine blk_alloc ?_ _)); refine blk_far ?_ NB262_264.out _; (with_reducible repeat (first | refine blk_drewN ?_ _ | refine blk_drew ?_ | refine blk_alloc ?_ _)); refine blk_far ?_ NB262_264.out _; (with_reducible repeat (first | refine blk_drewN ?_ _ | refine blk_drew ?_ | refine blk_alloc ?_ _)); refine blk_far ?_ NB262_264.out _; (with_reducible repeat (first | refine blk_drewN ?_ _ | refine blk_drew ?_ | refine blk_alloc ?_ _)); refine blk_far ?_ NB262_264.out _; (with_reducible repeat (first | refine blk_drewN ?_ _ | refine blk_drew ?_ | refine blk_alloc ?_ _)); exact BK262.out⟩, ⟨by (with_reducible repeat (first | refine blk_drewN ?_ _ | refine blk_drew ?_ | refine blk_alloc ?_ _)); refine blk_put (cs := #[.int .i64 a0, .int .i64 0, .int .i64 0, .int .i64 0, .int .i64 t263, .bool false, .bool false]) ?_ 6 _ rfl; (with_reducible repeat (first | refine blk_drewN ?_ _ | refine blk_drew ?_ | refine blk_alloc ?_ _)); refine blk_put (cs := #[.int .i64 a0, .int .i64 0, .int .i64 0, .int .i64 0, .int .i64 t263, .bool false, .bool false]) ?_ 5 _ rfl; (with_reducible repeat (first | refine blk_drewN ?_ _ | refine blk_drew ?_ | refine blk_alloc ?_ _)); refine blk_put (cs := #[.int .i64 a0, .int .i64 0, .int .i64 0, .int .i64 0, .int .i64 0, .bool false, .bool false]) ?_ 4 _ rfl; (with_reducible repeat (first | refine blk_drewN ?_ _ | refine blk_drew ?_ | refine blk_alloc ?_ _)); refine blk_put (cs := #[.int .i64 a0, .int .i64 0, .int .i64 0, .int .i64 0, .int .i64 0, .bool false, .bool false]) ?_ 3 _ rfl; (with_reducible repeat (first | refine blk_drewN ?_ _ | refine blk_drew ?_ | refine blk_alloc ?_ _)); refine blk_put (cs := #[.int .i64 a0, .int .i64 0, .int .i64 0, .int .i64 0, .int .i64 0, .bool false, .bool false]) ?_ 2 _ rfl; (with_reducible repeat (first | refine blk_drewN ?_ _ | refine blk_drew ?_ | refine blk_alloc ?_ _)); refine blk_put (cs := #[.int .i64 a0, .int .i64 0, .int .i64 0, .int .i64 0, .int .i64 0, .bool false, .bool false]) ?_ 1 _ rfl; (with_reducible repeat (first | refine blk_drewN ?_ _ | refine blk_drew ?_ | refine blk_alloc ?_ _)); refine blk_put (cs := #[.int .i64 0, .int .i64 0, .int .i64 0, .int .i64 0, .int .i64 0, .bool false, .bool false]) ?_ 0 _ rfl; (with_reducible repeat (first | refine blk_drewN ?_ _ | refine blk_drew ?_ | refine blk_alloc ?_ _)); exact BK264.out⟩, ⟨bs3 HB GE252 GE262 GE264⟩⟩
 case rest =>
  clear HC6
  try clear c1
  try clear c2
  try clear p2
  try clear c6
  try clear p6
  try clear c9
  try clear c11
  try clear c14
  try clear c15
  try clear c18
  try clear c20
  try clear c21
  try clear z12_0
  try clear z12_1
  try clear z12_2
  try clear z12_3
  try clear z12_4
  try clear z16_0
  try clear z16_1
  try clear z16_2
  try clear z16_3
  try clear z16_4
  try clear z16_5
  try clear z16_6
  try clear z17_0
  try clear z17_1
  try clear z17_2
  try clear z17_3
  try clear z17_4
  try clear z22_0
  try clear z22_1
  try clear z22_2
  try clear z22_3
  try clear z22_4
  try clear z22_5
  try clear z22_6
  try clear f12_0
  try clear f12_1
  try clear f12_2
  try clear f12_3
  try clear f12_4
  try clear f16_0
  try clear f16_1
  try clear f16_2
  try clear f16_3
  try clear f16_4
  try clear f16_5
  try clear f16_6
  try clear f17_0
  try clear f17_1
  try clear f17_2
  try clear f17_3
  try clear f17_4
  try clear f22_0
  try clear f22_1
  try clear f22_2
  try clear f22_3
  try clear f22_4
  try clear f22_5
  try clear f22_6
  obtain ⟨kq, x265001_5, HA, HJ5, BK252, BK262, BK264, HB⟩ := hcut
  cases kq with
  | zero => exact absurd HA.out (by simp [postbagref02_as0.j0])
  | succ kj5 =>
   have H := HA.out
   clear HA
   simp only [postbagref02_as0.j0] at H
   have HC23 := am H
   clear H
   have hnb24 := NB262_252.out
   have hnc24 := NB252_262.out
   have hnb25 := NB262_264.out
   have hnc25 := NB264_262.out
   obtain ⟨z26_0, z26_1, z26_2, z26_3, z26_4, f26_0, f26_1, f26_2, f26_3, f26_4⟩ := cf5 BK262
   go_upto_if 25 with (fail)
   go_cut [] (fun wc => ∃ (kq : Nat) (x265002_22 : Int), Aside0 (postbagref02_as0.j1 kq a1 t257 t258 t259 t260 t261 a0 x265001_5 x265002_22 0 t263 false false = some (r1, r2, r3, r4, r5, r6, r7)) ∧ Aside0 (kq ≤ kj5) ∧ Aside0 (wc.heap[gb252]? = some (.cells #[.int .i64 0, .int .i64 0, .int .i64 0, .int .i64 0, .int .i64 0, .bool false, .bool false] 50 (0, 0))) ∧ Aside0 (wc.heap[gb262]? = some (.cells #[.bool t257, .bool t258, .bool t259, .bool t260, .bool t261] 121 (0, 0))) ∧ Aside0 (wc.heap[gb264]? = some (.cells #[.int .i64 a0, .int .i64 x265001_5, .int .i64 x265002_22, .int .i64 0, .int .i64 t263, .bool false, .bool false] 50 (0, 0))) ∧ Aside0 (Below w.heap.size w wc))
   case first =>
    have H := HC23.out
    clear HC23
    by_cases c27 : t258 = true
    ·subst c27
     rw [if_pos rfl] at H
     obtain ⟨t266, A28, H⟩ := bam H
     try dsimp only at H
     have H' := am H
     clear H
     go_wp2_with (first | ((with_reducible refine gate_callee (f := 94) rfl ?_); refine gl (some 27) rfl rfl Tryz.func94 rfl #[.int .u32 a1, .int .i64 15, .int .i64 5] rfl ?_; (with_reducible refine (postbagref02_field.calls a1 15 5 t266 _ A28.out).mono ?_); rintro e w' ⟨rfl, ⟨nd, rfl⟩⟩; refine ⟨_, rfl, ?_⟩; (try (rw [drewN_self wc]; generalize hq_ : World.drewN wc _ = wc; have n0_ : Aside0 (wc.heap[gb252]? = some (.cells #[.int .i64 0, .int .i64 0, .int .i64 0, .int .i64 0, .int .i64 0, .bool false, .bool false] 50 (0, 0))) := ⟨by rw [← hq_]; exact (bu BK252)⟩; have n1_ : Aside0 (wc.heap[gb262]? = some (.cells #[.bool t257, .bool true, .bool t259, .bool t260, .bool t261] 121 (0, 0))) := ⟨by rw [← hq_]; exact (bu BK262)⟩; have n2_ : Aside0 (wc.heap[gb264]? = some (.cells #[.int .i64 a0, .int .i64 x265001_5, .int .i64 0, .int .i64 0, .int .i64 t263, .bool false, .bool false] 50 (0, 0))) := ⟨by rw [← hq_]; exact (bu BK264)⟩; have n3_ : Aside0 (Below w.heap.size w wc) := ⟨by rw [← hq_]; exact (bs3 HB GE252 GE262 GE264)⟩; clear BK252 BK262 BK264 HB hq_; have BK252 := n0_; have BK262 := n1_; have BK264 := n2_; have HB := n3_; clear n0_ n1_ n2_ n3_)); have hnb29 := NB264_252.out; have hnc29 := NB252_264.out; have hnb30 := NB264_262.out; have hnc30 := NB262_264.out; obtain ⟨z31_0, z31_1, z31_2, z31_3, z31_4, z31_5, z31_6, f31_0, f31_1, f31_2, f31_3, f31_4, f31_5, f31_6⟩ := cf7 BK264))
     go_meet
     case rel => exact ⟨_, (wrap64 (t266)), H', ⟨by have := HJ5.out; first | omega | exact Nat.le_refl _⟩, ⟨by (with_reducible repeat (first | refine blk_drewN ?_ _ | refine blk_drew ?_ | refine blk_alloc ?_ _)); refine blk_far ?_ NB252_264.out _; (with_reducible repeat (first | refine blk_drewN ?_ _ | refine blk_drew ?_ | refine blk_alloc ?_ _)); exact BK252.out⟩, ⟨by (with_reducible repeat (first | refine blk_drewN ?_ _ | refine blk_drew ?_ | refine blk_alloc ?_ _)); refine blk_far ?_ NB262_264.out _; (with_reducible repeat (first | refine blk_drewN ?_ _ | refine blk_drew ?_ | refine blk_alloc ?_ _)); exact BK262.out⟩, ⟨by (with_reducible repeat (first | refine blk_drewN ?_ _ | refine blk_drew ?_ | refine blk_alloc ?_ _)); refine blk_put (cs := #[.int .i64 a0, .int .i64 x265001_5, .int .i64 0, .int .i64 0, .int .i64 t263, .bool false, .bool false]) ?_ 2 _ rfl; (with_reducible repeat (first | refine blk_drewN ?_ _ | refine blk_drew ?_ | refine blk_alloc ?_ _)); exact BK264.out⟩, ⟨bs3 HB GE252 GE262 GE264⟩⟩
    ·replace c27 := Bool.eq_false_iff.mpr c27
     subst c27
     rw [if_neg ff] at H
     have H' := am H
     clear H
     go_wp2
     go_meet
     case rel => exact ⟨_, (0), H', ⟨by have := HJ5.out; first | omega | exact Nat.le_refl _⟩, ⟨bu BK252⟩, ⟨bu BK262⟩, ⟨bu BK264⟩, ⟨bs3 HB GE252 GE262 GE264⟩⟩
   case rest =>
    clear HC23
    try clear c1
    try clear c2
    try clear p2
    try clear c3
    try clear c6
    try clear p6
    try clear c9
    try clear c11
    try clear c14
    try clear c15
    try clear c18
    try clear c20
    try clear c21
    try clear c24
    try clear c25
    try clear c27
    try clear c29
    try clear c30
    try clear z12_0
    try clear z12_1
    try clear z12_2
    try clear z12_3
    try clear z12_4
    try clear z16_0
    try clear z16_1
    try clear z16_2
    try clear z16_3
    try clear z16_4
    try clear z16_5
    try clear z16_6
    try clear z17_0
    try clear z17_1
    try clear z17_2
    try clear z17_3
    try clear z17_4
    try clear z22_0
    try clear z22_1
    try clear z22_2
    try clear z22_3
    try clear z22_4
    try clear z22_5
    try clear z22_6
    try clear z26_0
    try clear z26_1
    try clear z26_2
    try clear z26_3
    try clear z26_4
    try clear z31_0
    try clear z31_1
    try clear z31_2
    try clear z31_3
    try clear z31_4
    try clear z31_5
    try clear z31_6
    try clear f12_0
    try clear f12_1
    try clear f12_2
    try clear f12_3
    try clear f12_4
    try clear f16_0
    try clear f16_1
    try clear f16_2
    try clear f16_3
    try clear f16_4
    try clear f16_5
    try clear f16_6
    try clear f17_0
    try clear f17_1
    try clear f17_2
    try clear f17_3
    try clear f17_4
    try clear f22_0
    try clear f22_1
    try clear f22_2
    try clear f22_3
    try clear f22_4
    try clear f22_5
    try clear f22_6
    try clear f26_0
    try clear f26_1
    try clear f26_2
    try clear f26_3
    try clear f26_4
    try clear f31_0
    try clear f31_1
    try clear f31_2
    try clear f31_3
    try clear f31_4
    try clear f31_5
    try clear f31_6
    try clear p2
    try clear p6
    obtain ⟨kq, x265002_22, HA, HJ22, BK252, BK262, BK264, HB⟩ := hcut
    cases kq with
    | zero => exact absurd HA.out (by simp [postbagref02_as0.j1])
    | succ kj22 =>
     have H := HA.out
     clear HA
     simp only [postbagref02_as0.j1] at H
     have HC32 := am H
     clear H
     have hnb33 := NB262_252.out
     have hnc33 := NB252_262.out
     have hnb34 := NB262_264.out
     have hnc34 := NB264_262.out
     obtain ⟨z35_0, z35_1, z35_2, z35_3, z35_4, f35_0, f35_1, f35_2, f35_3, f35_4⟩ := cf5 BK262
     go_upto_if 31 with (fail)
     go_cut [] (fun wc => ∃ (kq : Nat) (x265003_31 : Int), Aside0 (postbagref02_as0.j2 kq a1 t257 t258 t259 t260 t261 a0 x265001_5 x265002_22 x265003_31 t263 false false = some (r1, r2, r3, r4, r5, r6, r7)) ∧ Aside0 (kq ≤ kj22) ∧ Aside0 (wc.heap[gb252]? = some (.cells #[.int .i64 0, .int .i64 0, .int .i64 0, .int .i64 0, .int .i64 0, .bool false, .bool false] 50 (0, 0))) ∧ Aside0 (wc.heap[gb262]? = some (.cells #[.bool t257, .bool t258, .bool t259, .bool t260, .bool t261] 121 (0, 0))) ∧ Aside0 (wc.heap[gb264]? = some (.cells #[.int .i64 a0, .int .i64 x265001_5, .int .i64 x265002_22, .int .i64 x265003_31, .int .i64 t263, .bool false, .bool false] 50 (0, 0))) ∧ Aside0 (Below w.heap.size w wc))
     case first =>
      have H := HC32.out
      clear HC32
      by_cases c36 : t259 = true
      ·subst c36
       rw [if_pos rfl] at H
       obtain ⟨t267, A37, H⟩ := bam H
       try dsimp only at H
       have H' := am H
       clear H
       go_wp2_with (first | ((with_reducible refine gate_callee (f := 94) rfl ?_); refine gl (some 33) rfl rfl Tryz.func94 rfl #[.int .u32 a1, .int .i64 20, .int .i64 5] rfl ?_; (with_reducible refine (postbagref02_field.calls a1 20 5 t267 _ A37.out).mono ?_); rintro e w' ⟨rfl, ⟨nd, rfl⟩⟩; refine ⟨_, rfl, ?_⟩; (try (rw [drewN_self wc]; generalize hq_ : World.drewN wc _ = wc; have n0_ : Aside0 (wc.heap[gb252]? = some (.cells #[.int .i64 0, .int .i64 0, .int .i64 0, .int .i64 0, .int .i64 0, .bool false, .bool false] 50 (0, 0))) := ⟨by rw [← hq_]; exact (bu BK252)⟩; have n1_ : Aside0 (wc.heap[gb262]? = some (.cells #[.bool t257, .bool t258, .bool true, .bool t260, .bool t261] 121 (0, 0))) := ⟨by rw [← hq_]; exact (bu BK262)⟩; have n2_ : Aside0 (wc.heap[gb264]? = some (.cells #[.int .i64 a0, .int .i64 x265001_5, .int .i64 x265002_22, .int .i64 0, .int .i64 t263, .bool false, .bool false] 50 (0, 0))) := ⟨by rw [← hq_]; exact (bu BK264)⟩; have n3_ : Aside0 (Below w.heap.size w wc) := ⟨by rw [← hq_]; exact (bs3 HB GE252 GE262 GE264)⟩; clear BK252 BK262 BK264 HB hq_; have BK252 := n0_; have BK262 := n1_; have BK264 := n2_; have HB := n3_; clear n0_ n1_ n2_ n3_)); have hnb38 := NB264_252.out; have hnc38 := NB252_264.out; have hnb39 := NB264_262.out; have hnc39 := NB262_264.out; obtain ⟨z40_0, z40_1, z40_2, z40_3, z40_4, z40_5, z40_6, f40_0, f40_1, f40_2, f40_3, f40_4, f40_5, f40_6⟩ := cf7 BK264))
       go_meet
       case rel => exact ⟨_, (wrap64 (t267)), H', ⟨by have := HJ5.out; have := HJ22.out; first | omega | exact Nat.le_refl _⟩, ⟨by (with_reducible repeat (first | refine blk_drewN ?_ _ | refine blk_drew ?_ | refine blk_alloc ?_ _)); refine blk_far ?_ NB252_264.out _; (with_reducible repeat (first | refine blk_drewN ?_ _ | refine blk_drew ?_ | refine blk_alloc ?_ _)); exact BK252.out⟩, ⟨by (with_reducible repeat (first | refine blk_drewN ?_ _ | refine blk_drew ?_ | refine blk_alloc ?_ _)); refine blk_far ?_ NB262_264.out _; (with_reducible repeat (first | refine blk_drewN ?_ _ | refine blk_drew ?_ | refine blk_alloc ?_ _)); exact BK262.out⟩, ⟨by (with_reducible repeat (first | refine blk_drewN ?_ _ | refine blk_drew ?_ | refine blk_alloc ?_ _)); refine blk_put (cs := #[.int .i64 a0, .int .i64 x265001_5, .int .i64 x265002_22, .int .i64 0, .int .i64 t263, .bool false, .bool false]) ?_ 3 _ rfl; (with_reducible repeat (first | refine blk_drewN ?_ _ | refine blk_drew ?_ | refine blk_alloc ?_ _)); exact BK264.out⟩, ⟨bs3 HB GE252 GE262 GE264⟩⟩
      ·replace c36 := Bool.eq_false_iff.mpr c36
       subst c36
       rw [if_neg ff] at H
       have H' := am H
       clear H
       go_wp2
       go_meet
       case rel => exact ⟨_, (0), H', ⟨by have := HJ5.out; have := HJ22.out; first | omega | exact Nat.le_refl _⟩, ⟨bu BK252⟩, ⟨bu BK262⟩, ⟨bu BK264⟩, ⟨bs3 HB GE252 GE262 GE264⟩⟩
     case rest =>
      clear HC32
      try clear c1
      try clear c2
      try clear p2
      try clear c3
      try clear c6
      try clear p6
      try clear c9
      try clear c11
      try clear c14
      try clear c15
      try clear c18
      try clear c20
      try clear c21
      try clear c24
      try clear c25
      try clear c27
      try clear c29
      try clear c30
      try clear c33
      try clear c34
      try clear c36
      try clear c38
      try clear c39
      try clear z12_0
      try clear z12_1
      try clear z12_2
      try clear z12_3
      try clear z12_4
      try clear z16_0
      try clear z16_1
      try clear z16_2
      try clear z16_3
      try clear z16_4
      try clear z16_5
      try clear z16_6
      try clear z17_0
      try clear z17_1
      try clear z17_2
      try clear z17_3
      try clear z17_4
      try clear z22_0
      try clear z22_1
      try clear z22_2
      try clear z22_3
      try clear z22_4
      try clear z22_5
      try clear z22_6
      try clear z26_0
      try clear z26_1
      try clear z26_2
      try clear z26_3
      try clear z26_4
      try clear z31_0
      try clear z31_1
      try clear z31_2
      try clear z31_3
      try clear z31_4
      try clear z31_5
      try clear z31_6
      try clear z35_0
      try clear z35_1
      try clear z35_2
      try clear z35_3
      try clear z35_4
      try clear z40_0
      try clear z40_1
      try clear z40_2
      try clear z40_3
      try clear z40_4
      try clear z40_5
      try clear z40_6
      try clear f12_0
      try clear f12_1
      try clear f12_2
      try clear f12_3
      try clear f12_4
      try clear f16_0
      try clear f16_1
      try clear f16_2
      try clear f16_3
      try clear f16_4
      try clear f16_5
      try clear f16_6
      try clear f17_0
      try clear f17_1
      try clear f17_2
      try clear f17_3
      try clear f17_4
      try clear f22_0
      try clear f22_1
      try clear f22_2
      try clear f22_3
      try clear f22_4
      try clear f22_5
      try clear f22_6
      try clear f26_0
      try clear f26_1
      try clear f26_2
      try clear f26_3
      try clear f26_4
      try clear f31_0
      try clear f31_1
      try clear f31_2
      try clear f31_3
      try clear f31_4
      try clear f31_5
      try clear f31_6
      try clear f35_0
      try clear f35_1
      try clear f35_2
      try clear f35_3
      try clear f35_4
      try clear f40_0
      try clear f40_1
      try clear f40_2
      try clear f40_3
      try clear f40_4
      try clear f40_5
      try clear f40_6
      try clear p2
      try clear p6
      obtain ⟨kq, x265003_31, HA, HJ31, BK252, BK262, BK264, HB⟩ := hcut
      cases kq with
      | zero => exact absurd HA.out (by simp [postbagref02_as0.j2])
      | succ kj31 =>
       have H := HA.out
       clear HA
       simp only [postbagref02_as0.j2] at H
       by_cases c41 : t261 = true
       ·subst c41
        rw [if_pos rfl] at H
        obtain ⟨t268, A42, H⟩ := bam H
        try dsimp only at H
        obtain ⟨t269, A43, H⟩ := bam H
        try dsimp only at H
        simp only [Option.some.injEq, Prod.mk.injEq] at H
        obtain ⟨rfl, rfl, rfl, rfl, rfl, rfl, rfl⟩ := H
        have hnb44 := NB262_252.out
        have hnc44 := NB252_262.out
        have hnb45 := NB262_264.out
        have hnc45 := NB264_262.out
        obtain ⟨z46_0, z46_1, z46_2, z46_3, z46_4, f46_0, f46_1, f46_2, f46_3, f46_4⟩ := cf5 BK262
        go_wp2_with (first | ((with_reducible refine gate_callee (f := 94) rfl ?_); refine gl (some 39) rfl rfl Tryz.func94 rfl #[.int .u32 a1, .int .i64 26, .int .i64 1] rfl ?_; (with_reducible refine (postbagref02_field.calls a1 26 1 t268 _ A42.out).mono ?_); rintro e w' ⟨rfl, ⟨nd, rfl⟩⟩; refine ⟨_, rfl, ?_⟩; (try (rw [drewN_self wc]; generalize hq_ : World.drewN wc _ = wc; have n0_ : Aside0 (wc.heap[gb252]? = some (.cells #[.int .i64 0, .int .i64 0, .int .i64 0, .int .i64 0, .int .i64 0, .bool false, .bool false] 50 (0, 0))) := ⟨by rw [← hq_]; exact (bu BK252)⟩; have n1_ : Aside0 (wc.heap[gb262]? = some (.cells #[.bool t257, .bool t258, .bool t259, .bool t260, .bool true] 121 (0, 0))) := ⟨by rw [← hq_]; exact (bu BK262)⟩; have n2_ : Aside0 (wc.heap[gb264]? = some (.cells #[.int .i64 a0, .int .i64 x265001_5, .int .i64 x265002_22, .int .i64 x265003_31, .int .i64 t263, .bool false, .bool false] 50 (0, 0))) := ⟨by rw [← hq_]; exact (bu BK264)⟩; have n3_ : Aside0 (Below w.heap.size w wc) := ⟨by rw [← hq_]; exact (bs3 HB GE252 GE262 GE264)⟩; clear BK252 BK262 BK264 HB hq_; have BK252 := n0_; have BK262 := n1_; have BK264 := n2_; have HB := n3_; clear n0_ n1_ n2_ n3_)); have hnb47 := NB264_252.out; have hnc47 := NB252_264.out; obtain ⟨z48_0, z48_1, z48_2, z48_3, z48_4, z48_5, z48_6, f48_0, f48_1, f48_2, f48_3, f48_4, f48_5, f48_6⟩ := cf7 BK264) | ((with_reducible refine gate_callee (f := 94) rfl ?_); refine gl (some 43) rfl rfl Tryz.func94 rfl #[.int .u32 a1, .int .i64 25, .int .i64 1] rfl ?_; (with_reducible refine (postbagref02_field.calls a1 25 1 t269 _ A43.out).mono ?_); rintro e w' ⟨rfl, ⟨nd, rfl⟩⟩; refine ⟨_, rfl, ?_⟩; obtain ⟨z49_0, z49_1, z49_2, z49_3, z49_4, z49_5, z49_6, f49_0, f49_1, f49_2, f49_3, f49_4, f49_5, f49_6⟩ := cf7 BK252))
        refine bodyPost_ret (results_cell_row rfl _ _ gb252 50 #[.int .i64 a0, .int .i64 x265001_5, .int .i64 x265002_22, .int .i64 x265003_31, .int .i64 t263, .bool (t268 == 1), .bool (t269 == 1)] (0, 0) _ rfl (by (with_reducible repeat (first | refine blk_drewN ?_ _ | refine blk_drew ?_ | refine blk_alloc ?_ _)); refine blk_put (cs := #[.int .i64 a0, .int .i64 x265001_5, .int .i64 x265002_22, .int .i64 x265003_31, .int .i64 t263, .bool (t268 == 1), .bool false]) ?_ 6 _ rfl; (with_reducible repeat (first | refine blk_drewN ?_ _ | refine blk_drew ?_ | refine blk_alloc ?_ _)); refine blk_put (cs := #[.int .i64 a0, .int .i64 x265001_5, .int .i64 x265002_22, .int .i64 x265003_31, .int .i64 t263, .bool false, .bool false]) ?_ 5 _ rfl; (with_reducible repeat (first | refine blk_drewN ?_ _ | refine blk_drew ?_ | refine blk_alloc ?_ _)); refine blk_put (cs := #[.int .i64 a0, .int .i64 x265001_5, .int .i64 x265002_22, .int .i64 x265003_31, .int .i64 0, .bool false, .bool false]) ?_ 4 _ rfl; (with_reducible repeat (first | refine blk_drewN ?_ _ | refine blk_drew ?_ | refine blk_alloc ?_ _)); refine blk_put (cs := #[.int .i64 a0, .int .i64 x265001_5, .int .i64 x265002_22, .int .i64 0, .int .i64 0, .bool false, .bool false]) ?_ 3 _ rfl; (with_reducible repeat (first | refine blk_drewN ?_ _ | refine blk_drew ?_ | refine blk_alloc ?_ _)); refine blk_put (cs := #[.int .i64 a0, .int .i64 x265001_5, .int .i64 0, .int .i64 0, .int .i64 0, .bool false, .bool false]) ?_ 2 _ rfl; (with_reducible repeat (first | refine blk_drewN ?_ _ | refine blk_drew ?_ | refine blk_alloc ?_ _)); refine blk_put (cs := #[.int .i64 a0, .int .i64 0, .int .i64 0, .int .i64 0, .int .i64 0, .bool false, .bool false]) ?_ 1 _ rfl; (with_reducible repeat (first | refine blk_drewN ?_ _ | refine blk_drew ?_ | refine blk_alloc ?_ _)); refine blk_put (cs := #[.int .i64 0, .int .i64 0, .int .i64 0, .int .i64 0, .int .i64 0, .bool false, .bool false]) ?_ 0 _ rfl; (with_reducible repeat (first | refine blk_drewN ?_ _ | refine blk_drew ?_ | refine blk_alloc ?_ _)); refine blk_far ?_ NB252_264.out _; (with_reducible repeat (first | refine blk_drewN ?_ _ | refine blk_drew ?_ | refine blk_alloc ?_ _)); refine blk_far ?_ NB252_264.out _; (with_reducible repeat (first | refine blk_drewN ?_ _ | refine blk_drew ?_ | refine blk_alloc ?_ _)); exact BK252.out) Tryz.underlying50 rfl (by kernel_rfl)) rfl ?_
        exact ⟨fe, bs3 HB GE252 GE262 GE264⟩
       ·replace c41 := Bool.eq_false_iff.mpr c41
        subst c41
        rw [if_neg ff] at H
        simp only [Option.some.injEq, Prod.mk.injEq] at H
        obtain ⟨rfl, rfl, rfl, rfl, rfl, rfl, rfl⟩ := H
        have hnb50 := NB262_252.out
        have hnc50 := NB252_262.out
        have hnb51 := NB262_264.out
        have hnc51 := NB264_262.out
        obtain ⟨z52_0, z52_1, z52_2, z52_3, z52_4, f52_0, f52_1, f52_2, f52_3, f52_4⟩ := cf5 BK262
        have hnb53 := NB264_252.out
        have hnc53 := NB252_264.out
        obtain ⟨z54_0, z54_1, z54_2, z54_3, z54_4, z54_5, z54_6, f54_0, f54_1, f54_2, f54_3, f54_4, f54_5, f54_6⟩ := cf7 BK264
        obtain ⟨z55_0, z55_1, z55_2, z55_3, z55_4, z55_5, z55_6, f55_0, f55_1, f55_2, f55_3, f55_4, f55_5, f55_6⟩ := cf7 BK252
        go_wp2
        refine bodyPost_ret (results_cell_row rfl _ _ gb252 50 #[.int .i64 a0, .int .i64 x265001_5, .int .i64 x265002_22, .int .i64 x265003_31, .int .i64 t263, .bool false, .bool false] (0, 0) _ rfl (by (with_reducible repeat (first | refine blk_drewN ?_ _ | refine blk_drew ?_ | refine blk_alloc ?_ _)); refine blk_put (cs := #[.int .i64 a0, .int .i64 x265001_5, .int .i64 x265002_22, .int .i64 x265003_31, .int .i64 t263, .bool false, .bool false]) ?_ 6 _ rfl; (with_reducible repeat (first | refine blk_drewN ?_ _ | refine blk_drew ?_ | refine blk_alloc ?_ _)); refine blk_put (cs := #[.int .i64 a0, .int .i64 x265001_5, .int .i64 x265002_22, .int .i64 x265003_31, .int .i64 t263, .bool false, .bool false]) ?_ 5 _ rfl; (with_reducible repeat (first | refine blk_drewN ?_ _ | refine blk_drew ?_ | refine blk_alloc ?_ _)); refine blk_put (cs := #[.int .i64 a0, .int .i64 x265001_5, .int .i64 x265002_22, .int .i64 x265003_31, .int .i64 0, .bool false, .bool false]) ?_ 4 _ rfl; (with_reducible repeat (first | refine blk_drewN ?_ _ | refine blk_drew ?_ | refine blk_alloc ?_ _)); refine blk_put (cs := #[.int .i64 a0, .int .i64 x265001_5, .int .i64 x265002_22, .int .i64 0, .int .i64 0, .bool false, .bool false]) ?_ 3 _ rfl; (with_reducible repeat (first | refine blk_drewN ?_ _ | refine blk_drew ?_ | refine blk_alloc ?_ _)); refine blk_put (cs := #[.int .i64 a0, .int .i64 x265001_5, .int .i64 0, .int .i64 0, .int .i64 0, .bool false, .bool false]) ?_ 2 _ rfl; (with_reducible repeat (first | refine blk_drewN ?_ _ | refine blk_drew ?_ | refine blk_alloc ?_ _)); refine blk_put (cs := #[.int .i64 a0, .int .i64 0, .int .i64 0, .int .i64 0, .int .i64 0, .bool false, .bool false]) ?_ 1 _ rfl; (with_reducible repeat (first | refine blk_drewN ?_ _ | refine blk_drew ?_ | refine blk_alloc ?_ _)); refine blk_put (cs := #[.int .i64 0, .int .i64 0, .int .i64 0, .int .i64 0, .int .i64 0, .bool false, .bool false]) ?_ 0 _ rfl; (with_reducible repeat (first | refine blk_drewN ?_ _ | refine blk_drew ?_ | refine blk_alloc ?_ _)); exact BK252.out) Tryz.underlying50 rfl (by kernel_rfl)) rfl ?_
        exact ⟨fe, bs3 HB GE252 GE262 GE264⟩
def postbagref02_as.f (a0 : Int) (a1 : Int) : Option (Int × Int × Int × Int × Int × Bool × Bool) := if 0 ≤ a1 ∧ a1 < 4294967296 then some (a0, decRd a0 a1, decRs1 a0 a1, decRs2 a0 a1, decImm (formOf a0) a1, decAq a0 a1, decRl a0 a1) else none
theorem postbagref02_as.spec (a0 a1 r1 r2 r3 r4 r5 : Int) (r6 r7 : Bool) (h : postbagref02_as.f a0 a1 = some (r1, r2, r3, r4, r5, r6, r7)) : ∃ k, postbagref02_as0.f k a0 a1 = some (r1, r2, r3, r4, r5, r6, r7) := by
 unfold postbagref02_as.f at h
 split at h
 ·rename_i hc
  rw [← h]; clear h
  have pt : ∀ (low n : Nat), 1 ≤ n → low + n ≤ 64 → postbagref02_field.f a1 low n = some (a1 / 2 ^ low % 2 ^ n) := by
   intro low n h1 h2
   unfold postbagref02_field.f; rw [if_pos ⟨by omega, by omega, by omega, by omega, by omega⟩]; simp
  have q1 := pt 7 5 (by omega) (by omega)
  have q2 := pt 15 5 (by omega) (by omega)
  have q3 := pt 20 5 (by omega) (by omega)
  have q4 := pt 26 1 (by omega) (by omega)
  have q5 := pt 25 1 (by omega) (by omega)
  simp only [Int.reducePow, Int.cast_ofNat_Int] at q1 q2 q3 q4 q5
  have ww : ∀ x : Int, wrap64 (x % 32) = x % 32 := by intro x; unfold wrap64; omega
  refine ⟨4, ?_⟩
  unfold postbagref02_as0.f decRd decRs1 decRs2 decAq decRl keep
  simp only [postbagref02_Row.f, postbagref02_has.f, Option.bind_some, postbagref02_value.f, if_pos hc]
  cases hasRd (formOf a0) <;> cases hasRs1 (formOf a0) <;> cases hasRs2 (formOf a0) <;> cases hasAq (formOf a0) <;> simp [postbagref02_as0.j0, postbagref02_as0.j1, postbagref02_as0.j2, q1, q2, q3, q4, q5, ww]
 ·simp at h
theorem postbagref02_as.calls (a0 : Int) (a1 : Int) (r1 : Int) (r2 : Int) (r3 : Int) (r4 : Int) (r5 : Int) (r6 : Bool) (r7 : Bool) (w : World) (h : postbagref02_as.f a0 a1 = some (r1, r2, r3, r4, r5, r6, r7)) :
  Calls Tryz.prog 60 #[.int .i64 a0, .int .u32 a1] w fun e w' => e = .returned (.agg #[.int .i64 r1, .int .i64 r2, .int .i64 r3, .int .i64 r4, .int .i64 r5, .bool r6, .bool r7]) ∧ Below w.heap.size w w' := by
 obtain ⟨k, hk⟩ := postbagref02_as.spec a0 a1 r1 r2 r3 r4 r5 r6 r7 h
 exact postbagref02_as0.calls k a0 a1 r1 r2 r3 r4 r5 r6 r7 w hk
def postbagref02_register0.f (a0 : Int) (a1 : Bool) : Option (Bool) := if a1 = true then (if a0 ≥ 0 then (some (decide (a0 ≤ 31))) else (some false)) else (some (a0 == 0))
set_option maxHeartbeats 8000000 in
set_option maxRecDepth 100000 in
theorem postbagref02_register0.calls (a0 : Int) (a1 : Bool) (r : Bool) (w : World) (h : postbagref02_register0.f a0 a1 = some r) :
  Calls Tryz.prog 99 #[.int .i64 a0, .bool a1] w fun e w' => e = .returned (.bool r) ∧ Drawn0 w w' := by
 have H := h
 clear h
 unfold postbagref02_register0.f at H
 by_cases c3 : a1 = true
 ·subst c3
  rw [if_pos rfl] at H
  by_cases c4 : a0 ≥ 0
  ·rw [if_pos c4] at H
   have c4b0 : decide (0 ≤ a0) = true := decide_eq_true c4
   clear c4
   obtain rfl := Option.some.inj H
   go_enter Tryz.func99, Tryz.ntmps99
   go_wp2
   go_ret
   exact fd
  ·rw [if_neg c4] at H
   have c4b0 : decide (0 ≤ a0) = false := decide_eq_false c4
   clear c4
   obtain rfl := Option.some.inj H
   go_enter Tryz.func99, Tryz.ntmps99
   go_wp2
   go_ret
   exact fd
 ·replace c3 := Bool.eq_false_iff.mpr c3
  subst c3
  rw [if_neg ff] at H
  obtain rfl := Option.some.inj H
  go_enter Tryz.func99, Tryz.ntmps99
  go_wp2
  go_ret
  exact fd
def postbagref02_register.f (a0 : Int) (a1 : Bool) : Option (Bool) := some (regOf a0 a1)
theorem postbagref02_register.spec (a0 : Int) (a1 r : Bool) (h : postbagref02_register.f a0 a1 = some r) : postbagref02_register0.f a0 a1 = some r := by
 rw [← h]; unfold postbagref02_register0.f postbagref02_register.f regOf
 cases a1
 ·simp
 ·by_cases h0 : 0 ≤ a0 <;> simp [h0]
theorem postbagref02_register.calls (a0 : Int) (a1 : Bool) (r : Bool) (w : World) (h : postbagref02_register.f a0 a1 = some r) :
  Calls Tryz.prog 99 #[.int .i64 a0, .bool a1] w fun e w' => e = .returned (.bool r) ∧ Drawn0 w w' := by
 have hk := postbagref02_register.spec a0 a1 r h
 exact postbagref02_register0.calls a0 a1 r w hk
def postbagref01_Fits0.f (a0 : Int) (a1 : Int) : Option (Bool) := if a1 < 1 then (some false) else (if a1 > 63 then (some true) else ((postbagref01_Sign.f (IntKind.u64.wrap (a0)) a1).bind fun t270 => (some (t270 == (IntKind.u64.wrap (a0))))))
set_option maxHeartbeats 8000000 in
set_option maxRecDepth 100000 in
theorem postbagref01_Fits0.calls (a0 : Int) (a1 : Int) (r : Bool) (w : World) (h : postbagref01_Fits0.f a0 a1 = some r) :
  Calls Tryz.prog 119 #[.int .i64 a0, .int .i64 a1] w fun e w' => e = .returned (.bool r) ∧ Drawn0 w w' := by
 have H := h
 clear h
 unfold postbagref01_Fits0.f at H
 by_cases c3 : a1 < 1
 ·rw [if_pos c3] at H
  have c3b0 : decide (a1 < 1) = true := decide_eq_true c3
  clear c3
  obtain rfl := Option.some.inj H
  go_enter Tryz.func119, Tryz.ntmps119
  go_wp2
  go_ret
  exact fd
 ·rw [if_neg c3] at H
  have c3b0 : decide (a1 < 1) = false := decide_eq_false c3
  clear c3
  by_cases c4 : a1 > 63
  ·rw [if_pos c4] at H
   have c4b0 : decide (63 < a1) = true := decide_eq_true c4
   clear c4
   obtain rfl := Option.some.inj H
   go_enter Tryz.func119, Tryz.ntmps119
   go_wp2
   go_ret
   exact fd
  ·rw [if_neg c4] at H
   have c4b0 : decide (63 < a1) = false := decide_eq_false c4
   clear c4
   obtain ⟨t270, A5, H⟩ := bam H
   try dsimp only at H
   obtain rfl := Option.some.inj H
   go_enter Tryz.func119, Tryz.ntmps119
   go_wp2_with (first | ((with_reducible refine gate_callee (f := 97) rfl ?_); refine gl (some 12) rfl rfl Tryz.func97 rfl #[.int .u64 (IntKind.u64.wrap (a0)), .int .i64 a1] rfl ?_; (with_reducible refine (postbagref01_Sign.calls (IntKind.u64.wrap (a0)) a1 t270 _ A5.out).mono ?_); rintro e w' ⟨rfl, ⟨nd, rfl⟩⟩; refine ⟨_, rfl, ?_⟩))
   go_ret
   exact fd
def postbagref01_Fits.f (a0 : Int) (a1 : Int) : Option (Bool) := if I64 a0 then some (fitsOf a0 a1) else none
theorem postbagref01_Fits.spec (a0 a1 : Int) (r : Bool) (h : postbagref01_Fits.f a0 a1 = some r) : postbagref01_Fits0.f a0 a1 = some r := by
 unfold postbagref01_Fits.f at h
 by_cases hu : I64 a0
 ·rw [if_pos hu] at h
  obtain rfl := Option.some.inj h
  unfold postbagref01_Fits0.f
  by_cases h1 : a1 < 1
  ·rw [if_pos h1, fitsOf, decide_eq_false (by omega)]
  ·rw [if_neg h1]
   by_cases h2 : a1 > 63
   ·rw [if_pos h2, fitsOf, decide_eq_true ⟨by omega, fun h => by omega⟩]
   ·obtain ⟨n, rfl⟩ : ∃ n : Nat, a1 = n := ⟨a1.toNat, by omega⟩
    rw [if_neg h2, postbagref01_Sign.eq (U64.wrap _)]
    simp only [Option.bind_some]
    rw [fits_sign a0 hu n (by omega) (by omega)]
 ·rw [if_neg hu] at h; exact absurd h (by simp)
theorem postbagref01_Fits.calls (a0 : Int) (a1 : Int) (r : Bool) (w : World) (h : postbagref01_Fits.f a0 a1 = some r) :
  Calls Tryz.prog 119 #[.int .i64 a0, .int .i64 a1] w fun e w' => e = .returned (.bool r) ∧ Drawn0 w w' := by
 have hk := postbagref01_Fits.spec a0 a1 r h
 exact postbagref01_Fits0.calls a0 a1 r w hk
end Go.Proofs.YtcjfafhbohkhlaaGreat.PAll
