/- DERIVED. Printed contracts of functions. -/
import Derived.Test.YtcjfafhbohkhlaaGreatPAllx0
import Derived.Test.YtcjfafhbohkhlaaGreatPAllx11
import Derived.Test.YtcjfafhbohkhlaaGreatPAllx12
namespace Go.Proofs.YtcjfafhbohkhlaaGreat.PAll
open Go.RowKit Go.Proofs.YtcjfafhbohkhlaaGreatW.PrintWords Go.Proofs.YtcjfafhbohkhlaaGreatW.PrintLast Go.Proofs.YtcjfafhbohkhlaaGreatW.PrintMore Go.Proofs.YtcjfafhbohkhlaaGreat.M
attribute [local go_sem] max2_int min2_int max_two min_two max_three min_three max_four min_four
set_option linter.unusedVariables false
set_option linter.unusedSimpArgs false
def postbagref02_imm0.j0 : Nat → Int → Int → Bool → Option (Bool)
 | 0, _, _, _ => none
 | k + 1, x1, x5, x33 => if x33 = true then ((postbagref01_Fits.f x1 12).bind fun t274 => (some t274)) else (if x5 = 6 then (if x1 ≥ 0 then (some (decide (x1 ≤ 63))) else (some false)) else (if x5 = 7 then (if x1 ≥ 0 then (some (decide (x1 ≤ 31))) else (some false)) else (if x5 = 9 then (if x1 ≥ 0 then (some (decide (x1 ≤ 255))) else (some false)) else (some (x1 == 0)))))
def postbagref02_imm0.f (k : Nat) (a0 : Int) (a1 : Int) : Option (Bool) := if a0 = 1 then (if (Int.tmod a1 4096) = 0 then ((postbagref01_Fits.f a1 32).bind fun t271 => (some t271)) else (some false)) else (if a0 = 2 then (if (Int.tmod a1 2) = 0 then ((postbagref01_Fits.f a1 21).bind fun t272 => (some t272)) else (some false)) else (if a0 = 4 then (if (Int.tmod a1 2) = 0 then ((postbagref01_Fits.f a1 13).bind fun t273 => (some t273)) else (some false)) else (if a0 = 3 then (postbagref02_imm0.j0 k a1 a0 (a0 == 3)) else (postbagref02_imm0.j0 k a1 a0 (a0 == 5)))))
theorem postbagref02_imm0.mono_l : ∀ k, (∀ y0 y1 y2, LeO (postbagref02_imm0.j0 k y0 y1 y2) (postbagref02_imm0.j0 (k + 1) y0 y1 y2))
 | 0 => fun _ _ _ r h => by simp [postbagref02_imm0.j0] at h
 | k + 1 => by
  have ih0 := postbagref02_imm0.mono_l k
  ·intro y0 y1 y2
   unfold postbagref02_imm0.j0
   exact leo
theorem postbagref02_imm0.mono : ∀ a0 a1 k, LeO (postbagref02_imm0.f k a0 a1) (postbagref02_imm0.f (k + 1) a0 a1) := by
 intro a0 a1 k
 have ih0 := postbagref02_imm0.mono_l k
 unfold postbagref02_imm0.f
 exact leo
set_option maxHeartbeats 8000000 in
set_option maxRecDepth 100000 in
theorem postbagref02_imm0.calls (k : Nat) (a0 : Int) (a1 : Int) (r : Bool) (w : World) (h : postbagref02_imm0.f k a0 a1 = some r) :
  Calls Tryz.prog 100 #[.int .i64 a0, .int .i64 a1] w fun e w' => e = .returned (.bool r) ∧ Drawn0 w w' := by
 have H := h
 clear h
 unfold postbagref02_imm0.f at H
 by_cases c3 : a0 = 1
 ·rw [if_pos c3] at H
  obtain ⟨c3b0, c3b1⟩ := bqt c3
  clear c3
  by_cases c4 : (Int.tmod a1 4096) = 0
  ·rw [if_pos c4] at H
   obtain ⟨c4b0, c4b1⟩ := bqt c4
   clear c4
   replace H := Option.bind_eq_some_iff.mp H
   obtain ⟨t271, A50, H⟩ := H
   replace H : (some t271) = some r := H
   have A5 := am A50
   clear A50
   obtain rfl := Option.some.inj H
   go_enter Tryz.func100, Tryz.ntmps100
   go_wp2_with (first | (go_at_call 119; (with_reducible refine (postbagref01_Fits.calls a1 32 t271 _ A5.out).mono ?_); rintro e w' ⟨rfl, ⟨nd, rfl⟩⟩))
   go_ret
   exact fd
  ·rw [if_neg c4] at H
   obtain ⟨c4b0, c4b1⟩ := bqf c4
   obtain rfl := Option.some.inj H
   go_enter Tryz.func100, Tryz.ntmps100
   go_wp2
   go_ret
   exact fd
 ·rw [if_neg c3] at H
  obtain ⟨c3b0, c3b1⟩ := bqf c3
  by_cases c6 : a0 = 2
  ·rw [if_pos c6] at H
   obtain ⟨c6b0, c6b1⟩ := bqt c6
   clear c6
   by_cases c7 : (Int.tmod a1 2) = 0
   ·rw [if_pos c7] at H
    obtain ⟨c7b0, c7b1⟩ := bqt c7
    clear c7
    replace H := Option.bind_eq_some_iff.mp H
    obtain ⟨t272, A80, H⟩ := H
    replace H : (some t272) = some r := H
    have A8 := am A80
    clear A80
    obtain rfl := Option.some.inj H
    go_enter Tryz.func100, Tryz.ntmps100
    go_wp2_with (first | (go_at_call 119; (with_reducible refine (postbagref01_Fits.calls a1 21 t272 _ A8.out).mono ?_); rintro e w' ⟨rfl, ⟨nd, rfl⟩⟩))
    go_ret
    exact fd
   ·rw [if_neg c7] at H
    obtain ⟨c7b0, c7b1⟩ := bqf c7
    obtain rfl := Option.some.inj H
    go_enter Tryz.func100, Tryz.ntmps100
    go_wp2
    go_ret
    exact fd
  ·rw [if_neg c6] at H
   obtain ⟨c6b0, c6b1⟩ := bqf c6
   by_cases c9 : a0 = 4
   ·rw [if_pos c9] at H
    obtain ⟨c9b0, c9b1⟩ := bqt c9
    clear c9
    by_cases c10 : (Int.tmod a1 2) = 0
    ·rw [if_pos c10] at H
     obtain ⟨c10b0, c10b1⟩ := bqt c10
     clear c10
     replace H := Option.bind_eq_some_iff.mp H
     obtain ⟨t273, A110, H⟩ := H
     replace H : (some t273) = some r := H
     have A11 := am A110
     clear A110
     obtain rfl := Option.some.inj H
     go_enter Tryz.func100, Tryz.ntmps100
     go_wp2_with (first | (go_at_call 119; (with_reducible refine (postbagref01_Fits.calls a1 13 t273 _ A11.out).mono ?_); rintro e w' ⟨rfl, ⟨nd, rfl⟩⟩))
     go_ret
     exact fd
    ·rw [if_neg c10] at H
     obtain ⟨c10b0, c10b1⟩ := bqf c10
     obtain rfl := Option.some.inj H
     go_enter Tryz.func100, Tryz.ntmps100
     go_wp2
     go_ret
     exact fd
   ·rw [if_neg c9] at H
    obtain ⟨c9b0, c9b1⟩ := bqf c9
    have HC12 := am H
    clear H
    go_enter Tryz.func100, Tryz.ntmps100
    go_upto_if 33 with (fail)
    go_cut [33] (fun v33 wc => ∃ (kq : Nat) (x33_11 : Bool), v33 = .bool x33_11 ∧ Aside0 (postbagref02_imm0.j0 kq a1 a0 x33_11 = some r) ∧ Aside0 (kq ≤ k) ∧ Drawn0 w wc)
    case first =>
     have H := HC12.out
     clear HC12
     by_cases c13 : a0 = 3
     ·rw [if_pos c13] at H
      obtain ⟨c13b0, c13b1⟩ := bqt c13
      clear c13
      (first | rw [c13b0] | (simp only [i64_w, i32_w]; rw [c13b0]) | skip)
      have H' := am H
      clear H
      go_wp2
      go_meet
      case rel => exact ⟨_, ((a0 == 3)), fr, H', ⟨om⟩, dd⟩
     ·rw [if_neg c13] at H
      obtain ⟨c13b0, c13b1⟩ := bqf c13
      (first | rw [c13b0] | (simp only [i64_w, i32_w]; rw [c13b0]) | skip)
      have H' := am H
      clear H
      go_wp2
      go_meet
      case rel => exact ⟨_, ((a0 == 5)), fr, H', ⟨om⟩, dd⟩
    case rest =>
     clear HC12
     try clear c1
     try clear p2
     try clear c3
     try clear c3b0
     try clear c3b1
     try clear c4
     try clear c4b0
     try clear c4b1
     try clear c6
     try clear c6b0
     try clear c6b1
     try clear c7
     try clear c7b0
     try clear c7b1
     try clear c9
     try clear c9b0
     try clear c9b1
     try clear c10
     try clear c10b0
     try clear c10b1
     try clear c13
     try clear c13b0
     try clear c13b1
     obtain ⟨kq, x33_11, rfl, HA, HJ11, ⟨mc11, rfl⟩⟩ := hcut
     cases kq with
     | zero => exact absurd HA.out (by simp [postbagref02_imm0.j0])
     | succ kj11 =>
      have H := HA.out
      clear HA
      simp only [postbagref02_imm0.j0] at H
      by_cases c14 : x33_11 = true
      ·subst c14
       rw [if_pos rfl] at H
       replace H := Option.bind_eq_some_iff.mp H
       obtain ⟨t274, A150, H⟩ := H
       replace H : (some t274) = some r := H
       have A15 := am A150
       clear A150
       obtain rfl := Option.some.inj H
       go_wp2_with (first | ((with_reducible refine gate_callee (f := 119) rfl ?_); refine gl (some 37) rfl rfl Tryz.func119 rfl #[.int .i64 a1, .int .i64 12] rfl ?_; (with_reducible refine (postbagref01_Fits.calls a1 12 t274 _ A15.out).mono ?_); rintro e w' ⟨rfl, ⟨nd, rfl⟩⟩; refine ⟨_, rfl, ?_⟩))
       go_ret
       exact fd
      ·replace c14 := Bool.eq_false_iff.mpr c14
       subst c14
       rw [if_neg ff] at H
       by_cases c16 : a0 = 6
       ·rw [if_pos c16] at H
        obtain ⟨c16b0, c16b1⟩ := bqt c16
        clear c16
        by_cases c17 : a1 ≥ 0
        ·rw [if_pos c17] at H
         have c17b0 : decide (0 ≤ a1) = true := decide_eq_true c17
         clear c17
         obtain rfl := Option.some.inj H
         go_wp2
         go_ret
         exact fd
        ·rw [if_neg c17] at H
         have c17b0 : decide (0 ≤ a1) = false := decide_eq_false c17
         clear c17
         obtain rfl := Option.some.inj H
         go_wp2
         go_ret
         exact fd
       ·rw [if_neg c16] at H
        obtain ⟨c16b0, c16b1⟩ := bqf c16
        by_cases c18 : a0 = 7
        ·rw [if_pos c18] at H
         obtain ⟨c18b0, c18b1⟩ := bqt c18
         clear c18
         by_cases c19 : a1 ≥ 0
         ·rw [if_pos c19] at H
          have c19b0 : decide (0 ≤ a1) = true := decide_eq_true c19
          clear c19
          obtain rfl := Option.some.inj H
          go_wp2
          go_ret
          exact fd
         ·rw [if_neg c19] at H
          have c19b0 : decide (0 ≤ a1) = false := decide_eq_false c19
          clear c19
          obtain rfl := Option.some.inj H
          go_wp2
          go_ret
          exact fd
        ·rw [if_neg c18] at H
         obtain ⟨c18b0, c18b1⟩ := bqf c18
         by_cases c20 : a0 = 9
         ·rw [if_pos c20] at H
          obtain ⟨c20b0, c20b1⟩ := bqt c20
          clear c20
          by_cases c21 : a1 ≥ 0
          ·rw [if_pos c21] at H
           have c21b0 : decide (0 ≤ a1) = true := decide_eq_true c21
           clear c21
           obtain rfl := Option.some.inj H
           go_wp2
           go_ret
           exact fd
          ·rw [if_neg c21] at H
           have c21b0 : decide (0 ≤ a1) = false := decide_eq_false c21
           clear c21
           obtain rfl := Option.some.inj H
           go_wp2
           go_ret
           exact fd
         ·rw [if_neg c20] at H
          obtain ⟨c20b0, c20b1⟩ := bqf c20
          obtain rfl := Option.some.inj H
          go_wp2
          go_ret
          exact fd
def postbagref02_imm.f (a0 : Int) (a1 : Int) : Option (Bool) := if I64 a1 then some (immOf a0 a1) else none
theorem postbagref02_imm.spec (a0 a1 : Int) (r : Bool) (h : postbagref02_imm.f a0 a1 = some r) : ∃ k, postbagref02_imm0.f k a0 a1 = some r := by
 unfold postbagref02_imm.f at h
 by_cases hI : I64 a1
 ·rw [if_pos hI] at h
  obtain rfl := Option.some.inj h
  refine ⟨1, ?_⟩
  unfold postbagref02_imm0.f
  simp only [postbagref02_imm0.j0, postbagref01_Fits.f, if_pos hI, Option.bind_some, tmod0, immOf, beq_iff_eq]
  repeat' split
  all_goals simp_all
  all_goals omega
 ·rw [if_neg hI] at h; exact absurd h (by simp)
theorem postbagref02_imm.calls (a0 : Int) (a1 : Int) (r : Bool) (w : World) (h : postbagref02_imm.f a0 a1 = some r) :
  Calls Tryz.prog 100 #[.int .i64 a0, .int .i64 a1] w fun e w' => e = .returned (.bool r) ∧ Drawn0 w w' := by
 obtain ⟨k, hk⟩ := postbagref02_imm.spec a0 a1 r h
 exact postbagref02_imm0.calls k a0 a1 r w hk
set_option maxHeartbeats 2000000 in
theorem postbagref02_Good.w (a0_0 a0_1 a0_2 a0_3 a0_4 f c x3 x7 : Int) (a0_5 a0_6 b1 b2 b3 b4 b5 p1 p3 p4 p5 p6 : Bool) (w : World)
  (hO : Hid (∀ W, Calls Tryz.prog 69 #[.int .i64 a0_0] W fun e w' => e = .returned (.agg #[.int .i64 f, .int .i64 c, .int .i64 x3, .int .i64 x7]) ∧ Below W.heap.size W w'))
  (hH : Hid (∀ W, Calls Tryz.prog 92 #[.int .i64 f] W fun e w' => e = .returned (.agg #[.bool b1, .bool b2, .bool b3, .bool b4, .bool b5]) ∧ Below W.heap.size W w'))
  (h3 : Hid (∀ W, Calls Tryz.prog 99 #[.int .i64 a0_1, .bool b1] W fun e w' => e = .returned (.bool p3) ∧ Drawn0 W w'))
  (h4 : Hid (∀ W, Calls Tryz.prog 99 #[.int .i64 a0_2, .bool b2] W fun e w' => e = .returned (.bool p4) ∧ Drawn0 W w'))
  (h5 : Hid (∀ W, Calls Tryz.prog 99 #[.int .i64 a0_3, .bool b3] W fun e w' => e = .returned (.bool p5) ∧ Drawn0 W w'))
  (h6 : Hid (∀ W, Calls Tryz.prog 100 #[.int .i64 f, .int .i64 a0_4] W fun e w' => e = .returned (.bool p6) ∧ Drawn0 W w'))
  (q1 : Hid ((f == 0) = !p1)) :
  Calls Tryz.prog 68 #[.agg #[.int .i64 a0_0, .int .i64 a0_1, .int .i64 a0_2, .int .i64 a0_3, .int .i64 a0_4, .bool a0_5, .bool a0_6]] w fun e w' => e = .returned (.bool (p1 && (p3 && (p4 && (p5 && (p6 && (b5 || (!a0_5 && !a0_6)))))))) ∧ Below w.heap.size w w' := by
 have cs : p1 = false ∨ p1 = true ∧ p3 = false ∨ p1 = true ∧ p3 = true ∧ p4 = false ∨ p1 = true ∧ p3 = true ∧ p4 = true ∧ p5 = false ∨ p1 = true ∧ p3 = true ∧ p4 = true ∧ p5 = true ∧ p6 = false ∨ p1 = true ∧ p3 = true ∧ p4 = true ∧ p5 = true ∧ p6 = true := by
  cases p1 <;> cases p3 <;> cases p4 <;> cases p5 <;> cases p6 <;> simp
 have hix : ∀ (x0 x1 x2 x3 : Value) (W : World), (Instr.index 111 (.agg #[x0, x1, x2, x3]) (.int .i64 0)).run Tryz.prog W = .ok x0 W := fun _ _ _ _ _ => by kernel_rfl
 rcases cs with rfl | ⟨rfl, rfl⟩ | ⟨rfl, rfl, rfl⟩ | ⟨rfl, rfl, rfl, rfl⟩ | ⟨rfl, rfl, rfl, rfl, rfl⟩ | ⟨rfl, rfl, rfl, rfl, rfl⟩
 all_goals (
  go_enter Tryz.func68, Tryz.ntmps68
  go_wp2_with fail
  refine (hO.out _).mono ?_
  rintro e w1 ⟨rfl, hb⟩
  have B1 := (Blk.new w _ _).below hb
  have hb := Lib.hid ((((Below.refl w.heap.size w).alloc (Nat.le_refl _) _).trans (hb.mono (by simp))))
  go_wp2_with fail
  refine (hH.out _).mono ?_
  rintro e w2 ⟨rfl, hb2⟩
  replace B1 := B1.below hb2
  replace hb := Lib.hid (hb.out.trans (hb2.mono hb.out.size))
  clear hb2
  have c1 := B1.cell
  have l1 := B1.lt
  have B1 := Lib.hid B1
  have q1 := q1.out
  have q1 : (f == 0) = _ := q1
  simp only [Bool.not_false, Bool.not_true] at q1
  go_wp2_with (first | (go_at_call 100; refine (h6.out _).mono ?_; rintro e w3 ⟨rfl, ⟨nd, rfl⟩⟩) | (go_at_call 99; (with_reducible first | refine (h3.out _).mono ?_ | refine (h4.out _).mono ?_ | refine (h5.out _).mono ?_); rintro e w3 ⟨rfl, ⟨nd, rfl⟩⟩))
  all_goals (
   go_ret
   have hb := hb.out
   refine ⟨by simp [*], ?_⟩
   repeat (first | exact hb | apply below_drewN | apply Below.alloc _ hb.size)))
def postbagref02_Good.f (a0_0 : Int) (a0_1 : Int) (a0_2 : Int) (a0_3 : Int) (a0_4 : Int) (a0_5 : Bool) (a0_6 : Bool) : Option (Bool) := if I64 a0_4 then some (goodOf a0_0 a0_1 a0_2 a0_3 a0_4 a0_5 a0_6) else none
theorem postbagref02_Good.calls (a0_0 : Int) (a0_1 : Int) (a0_2 : Int) (a0_3 : Int) (a0_4 : Int) (a0_5 : Bool) (a0_6 : Bool) (r : Bool) (w : World) (h : postbagref02_Good.f a0_0 a0_1 a0_2 a0_3 a0_4 a0_5 a0_6 = some r) :
  Calls Tryz.prog 68 #[.agg #[.int .i64 a0_0, .int .i64 a0_1, .int .i64 a0_2, .int .i64 a0_3, .int .i64 a0_4, .bool a0_5, .bool a0_6]] w fun e w' => e = .returned (.bool r) ∧ Below w.heap.size w w' := by
 unfold postbagref02_Good.f at h
 by_cases hI : I64 a0_4
 case neg => rw [if_neg hI] at h; simp at h
 rw [if_pos hI] at h
 obtain rfl := Option.some.inj h
 have hn := (nums_range a0_0).1
 refine (postbagref02_Good.w a0_0 a0_1 a0_2 a0_3 a0_4 (formOf a0_0) (codeOf a0_0) (f3Of a0_0) (f7Of a0_0) a0_5 a0_6 (hasRd (formOf a0_0)) (hasRs1 (formOf a0_0)) (hasRs2 (formOf a0_0)) (hasImm (formOf a0_0)) (hasAq (formOf a0_0)) (decide (0 < formOf a0_0)) _ _ _ _ w
  (fun W => postbagref02_Row.c a0_0 W) (fun W => postbagref02_has.c (formOf a0_0) W) (fun W => postbagref02_register.calls _ _ _ W rfl) (fun W => postbagref02_register.calls _ _ _ W rfl) (fun W => postbagref02_register.calls _ _ _ W rfl)
  (fun W => postbagref02_imm.calls _ _ _ W (by unfold postbagref02_imm.f; rw [if_pos hI]))
  (by
   show (formOf a0_0 == 0) = !decide (0 < formOf a0_0)
   by_cases e : formOf a0_0 = 0
   ·rw [e]; rfl
   ·rw [show decide (0 < formOf a0_0) = true from decide_eq_true (by omega)]; simpa using e)).mono ?_
 rintro e w' ⟨rfl, hb⟩
 exact ⟨rfl, hb⟩
mutual
def postbagref01_Place0.j0 : Nat → Int → Int → Int → Int → Bool → Option (Int)
 | 0, _, _, _, _, _ => none
 | k + 1, x0, x1, x2, x3, x19 => if x19 = true then (some x0) else (postbagref01_Place0.l0 k x0 x1 x2 x3 0)
def postbagref01_Place0.l0 : Nat → Int → Int → Int → Int → Int → Option (Int)
 | 0, _, _, _, _, _ => none
 | k + 1, x0, x1, x2, x3, x9 => if x9 < x2 then (postbagref01_Place0.j2 k x0 x1 x2 x3 x9 (decide (x9 < (wrap64 (64 - x1))))) else (postbagref01_Place0.j2 k x0 x1 x2 x3 x9 false)
def postbagref01_Place0.j2 : Nat → Int → Int → Int → Int → Int → Bool → Option (Int)
 | 0, _, _, _, _, _, _ => none
 | k + 1, x0, x1, x2, x3, x9, x29 => if x29 = true then ((postbagref01_Bit.f x0 (wrap64 (x1 + x9))).bind fun t275 => ((postbagref01_power.f (wrap64 (x1 + x9))).bind fun t276 => ((postbagref01_Bit.f x3 x9).bind fun t277 => ((postbagref01_power.f (wrap64 (x1 + x9))).bind fun t278 => (postbagref01_Place0.l0 k (IntKind.u64.wrap ((IntKind.u64.wrap (x0 - (IntKind.u64.wrap (t275 * t276)))) + (IntKind.u64.wrap (t277 * t278)))) x1 x2 x3 (wrap64 (x9 + 1))))))) else (some x0)
end
def postbagref01_Place0.f (k : Nat) (a0 : Int) (a1 : Int) (a2 : Int) (a3 : Int) : Option (Int) := if a1 < 0 then (postbagref01_Place0.j0 k a0 a1 a2 a3 true) else (if a1 > 63 then (postbagref01_Place0.j0 k a0 a1 a2 a3 true) else (postbagref01_Place0.j0 k a0 a1 a2 a3 (decide (a2 < 1))))
theorem postbagref01_Place0.mono_l : ∀ k, (∀ y0 y1 y2 y3 y4, LeO (postbagref01_Place0.j0 k y0 y1 y2 y3 y4) (postbagref01_Place0.j0 (k + 1) y0 y1 y2 y3 y4)) ∧ (∀ y0 y1 y2 y3 y4, LeO (postbagref01_Place0.l0 k y0 y1 y2 y3 y4) (postbagref01_Place0.l0 (k + 1) y0 y1 y2 y3 y4)) ∧ (∀ y0 y1 y2 y3 y4 y5, LeO (postbagref01_Place0.j2 k y0 y1 y2 y3 y4 y5) (postbagref01_Place0.j2 (k + 1) y0 y1 y2 y3 y4 y5))
 | 0 => ⟨fun _ _ _ _ _ r h => by simp [postbagref01_Place0.j0] at h, fun _ _ _ _ _ r h => by simp [postbagref01_Place0.l0] at h, fun _ _ _ _ _ _ r h => by simp [postbagref01_Place0.j2] at h⟩
 | k + 1 => by
  obtain ⟨ih0, ih1, ih2⟩ := postbagref01_Place0.mono_l k
  refine ⟨?_, ?_, ?_⟩
  ·intro y0 y1 y2 y3 y4
   unfold postbagref01_Place0.j0
   exact leo
  ·intro y0 y1 y2 y3 y4
   unfold postbagref01_Place0.l0
   exact leo
  ·intro y0 y1 y2 y3 y4 y5
   unfold postbagref01_Place0.j2
   exact leo
theorem postbagref01_Place0.mono : ∀ a0 a1 a2 a3 k, LeO (postbagref01_Place0.f k a0 a1 a2 a3) (postbagref01_Place0.f (k + 1) a0 a1 a2 a3) := by
 intro a0 a1 a2 a3 k
 obtain ⟨ih0, ih1, ih2⟩ := postbagref01_Place0.mono_l k
 unfold postbagref01_Place0.f
 exact leo
set_option maxHeartbeats 8000000 in
set_option maxRecDepth 100000 in
theorem postbagref01_Place0.calls (k : Nat) (a0 : Int) (a1 : Int) (a2 : Int) (a3 : Int) (r : Int) (w : World) (h : postbagref01_Place0.f k a0 a1 a2 a3 = some r) :
  Calls Tryz.prog 74 #[.int .u64 a0, .int .i64 a1, .int .i64 a2, .int .u64 a3] w fun e w' => e = .returned (.int .u64 r) ∧ Drawn0 w w' := by
 have H := h
 clear h
 unfold postbagref01_Place0.f at H
 have HC5 := am H
 clear H
 go_enter Tryz.func74, Tryz.ntmps74
 go_upto_region 1 with (fail)
 go_cut [19] (fun v19 wc => ∃ (kq : Nat) (x19_4 : Bool), v19 = .bool x19_4 ∧ Aside0 (postbagref01_Place0.j0 kq a0 a1 a2 a3 x19_4 = some r) ∧ Aside0 (kq ≤ k) ∧ Drawn0 w wc)
 case first =>
  have H := HC5.out
  clear HC5
  by_cases c6 : a1 < 0
  ·rw [if_pos c6] at H
   have c6b0 : decide (a1 < 0) = true := decide_eq_true c6
   clear c6
   (first | rw [c6b0] | (simp only [i64_w, i32_w]; rw [c6b0]) | skip)
   have H' := am H
   clear H
   go_wp2
   go_meet
   case rel => exact ⟨_, (true), fr, H', ⟨om⟩, dd⟩
  ·rw [if_neg c6] at H
   have c6b0 : decide (a1 < 0) = false := decide_eq_false c6
   clear c6
   (first | rw [c6b0] | (simp only [i64_w, i32_w]; rw [c6b0]) | skip)
   by_cases c7 : a1 > 63
   ·rw [if_pos c7] at H
    have c7b0 : decide (63 < a1) = true := decide_eq_true c7
    clear c7
    have H' := am H
    clear H
    go_wp2
    go_meet
    case rel => exact ⟨_, (true), fr, H', ⟨om⟩, dd⟩
   ·rw [if_neg c7] at H
    have c7b0 : decide (63 < a1) = false := decide_eq_false c7
    clear c7
    have H' := am H
    clear H
    go_wp2
    go_meet
    case rel => exact ⟨_, (decide (a2 < 1)), fr, H', ⟨om⟩, dd⟩
 case rest =>
  clear HC5
  try clear p2
  try clear c6
  try clear c6b0
  try clear c7
  try clear c7b0
  obtain ⟨kq, x19_4, rfl, HA, HJ4, ⟨mc4, rfl⟩⟩ := hcut
  cases kq with
  | zero => exact absurd HA.out (by simp [postbagref01_Place0.j0])
  | succ kj4 =>
   have H := HA.out
   clear HA
   simp only [postbagref01_Place0.j0] at H
   by_cases c8 : x19_4 = true
   ·subst c8
    rw [if_pos rfl] at H
    obtain rfl := Option.some.inj H
    go_wp2
    go_ret
    exact fd
   ·replace c8 := Bool.eq_false_iff.mpr c8
    subst c8
    rw [if_neg ff] at H
    have H' := am H
    clear H
    go_wp2
    go_loopg [0, 9] kj4 (fun kq v0 v9 w' => ∃ (x0_2 : Int) (x9_2 : Int), v0 = .int .u64 x0_2 ∧ v9 = .int .i64 x9_2 ∧ Aside0 (postbagref01_Place0.l0 kq x0_2 a1 a2 a3 x9_2 = some r) ∧ Aside0 (kq ≤ kj4) ∧ Drawn0 w w')
    case atStart => exact ⟨(a0), (0), fr, fr, H', ⟨Nat.le_refl _⟩, dd⟩
    case round =>
     clear H'
     try clear p2
     try clear c4
     try clear c6
     try clear c6b0
     try clear c7
     try clear c7b0
     try clear c8
     try clear p2
     obtain ⟨x0_2, x9_2, rfl, rfl, HA, HK2, ⟨m2, rfl⟩⟩ := hrel
     cases gk with
     | zero => exact absurd HA.out (by simp [postbagref01_Place0.l0])
     | succ k2 =>
      have H := HA.out
      clear HA
      simp only [postbagref01_Place0.l0] at H
      have HC9 := am H
      clear H
      go_upto_region 4 with (fail)
      go_cut [29] (fun v29 wc => ∃ (kq : Nat) (x29_8 : Bool), v29 = .bool x29_8 ∧ Aside0 (postbagref01_Place0.j2 kq x0_2 a1 a2 a3 x9_2 x29_8 = some r) ∧ Aside0 (kq ≤ k2) ∧ Drawn0 w wc)
      case first =>
       have H := HC9.out
       clear HC9
       by_cases c10 : x9_2 < a2
       ·rw [if_pos c10] at H
        have c10b0 : decide (x9_2 < a2) = true := decide_eq_true c10
        clear c10
        (first | rw [c10b0] | (simp only [i64_w, i32_w]; rw [c10b0]) | skip)
        have H' := am H
        clear H
        go_wp2
        go_meet
        case rel => exact ⟨_, (decide (x9_2 < (wrap64 (64 - a1)))), fr, H', ⟨by have := HJ4.out; have := HK2.out; first | omega | exact Nat.le_refl _⟩, dd⟩
       ·rw [if_neg c10] at H
        have c10b0 : decide (x9_2 < a2) = false := decide_eq_false c10
        clear c10
        (first | rw [c10b0] | (simp only [i64_w, i32_w]; rw [c10b0]) | skip)
        have H' := am H
        clear H
        go_wp2
        go_meet
        case rel => exact ⟨_, (false), fr, H', ⟨by have := HJ4.out; have := HK2.out; first | omega | exact Nat.le_refl _⟩, dd⟩
      case rest =>
       clear HC9
       try clear c1
       try clear p2
       try clear c4
       try clear c6
       try clear c6b0
       try clear p6
       try clear c7
       try clear c7b0
       try clear c8
       try clear c10
       try clear c10b0
       try clear p2
       obtain ⟨kq, x29_8, rfl, HA, HJ8, ⟨mc8, rfl⟩⟩ := hcut
       cases kq with
       | zero => exact absurd HA.out (by simp [postbagref01_Place0.j2])
       | succ kj8 =>
        have H := HA.out
        clear HA
        simp only [postbagref01_Place0.j2] at H
        by_cases c11 : x29_8 = true
        ·subst c11
         rw [if_pos rfl] at H
         obtain ⟨t275, A12, H⟩ := bam H
         try dsimp only at H
         obtain ⟨t276, A13, H⟩ := bam H
         try dsimp only at H
         obtain ⟨t277, A14, H⟩ := bam H
         try dsimp only at H
         obtain ⟨t278, A15, H⟩ := bam H
         try dsimp only at H
         have H' := am H
         clear H
         go_wp2_with (first | ((with_reducible refine gate_callee (f := 103) rfl ?_); refine gl (some 37) rfl rfl Tryz.func103 rfl #[.int .u64 x0_2, .int .i64 (wrap64 (a1 + x9_2))] rfl ?_; (with_reducible refine (postbagref01_Bit.calls x0_2 (wrap64 (a1 + x9_2)) t275 _ A12.out).mono ?_); rintro e w' ⟨rfl, ⟨nd, rfl⟩⟩; refine ⟨_, rfl, ?_⟩) | ((with_reducible refine gate_callee (f := 111) rfl ?_); refine gl (some 41) rfl rfl Tryz.func111 rfl #[.int .i64 (wrap64 (a1 + x9_2))] rfl ?_; (with_reducible refine (postbagref01_power.calls (wrap64 (a1 + x9_2)) t276 _ A13.out).mono ?_); rintro e w' ⟨rfl, ⟨nd, rfl⟩⟩; refine ⟨_, rfl, ?_⟩) | ((with_reducible refine gate_callee (f := 103) rfl ?_); refine gl (some 46) rfl rfl Tryz.func103 rfl #[.int .u64 a3, .int .i64 x9_2] rfl ?_; (with_reducible refine (postbagref01_Bit.calls a3 x9_2 t277 _ A14.out).mono ?_); rintro e w' ⟨rfl, ⟨nd, rfl⟩⟩; refine ⟨_, rfl, ?_⟩) | ((with_reducible refine gate_callee (f := 111) rfl ?_); refine gl (some 50) rfl rfl Tryz.func111 rfl #[.int .i64 (wrap64 (a1 + x9_2))] rfl ?_; (with_reducible refine (postbagref01_power.calls (wrap64 (a1 + x9_2)) t278 _ A15.out).mono ?_); rintro e w' ⟨rfl, ⟨nd, rfl⟩⟩; refine ⟨_, rfl, ?_⟩))
         go_roundg kj8
         case measure => have := HJ4.out; have := HK2.out; have := HJ8.out; omega
         case rel => exact ⟨(IntKind.u64.wrap ((IntKind.u64.wrap (x0_2 - (IntKind.u64.wrap (t275 * t276)))) + (IntKind.u64.wrap (t277 * t278)))), (wrap64 (x9_2 + 1)), fr, fr, H', ⟨by have := HJ4.out; have := HK2.out; have := HJ8.out; omega⟩, dd⟩
        ·replace c11 := Bool.eq_false_iff.mpr c11
         subst c11
         rw [if_neg ff] at H
         obtain rfl := Option.some.inj H
         go_wp2
         go_ret
         exact fd
def postbagref01_Place.f (a0 : Int) (a1 : Int) (a2 : Int) (a3 : Int) : Option (Int) := if U64 a0 ∧ U64 a3 then some (placeOf a0 a1 a2 a3) else none
theorem postbagref01_Place.loop (X L M V : Nat) (hX : X < 2 ^ 64) (hV : V < 2 ^ 64) (hL : L ≤ 63) (d : Nat) : ∀ (k i : Nat), i + d = min M (64 - L) → 2 * d + 1 < k →
  postbagref01_Place0.l0 k ((place X L i V : Nat) : Int) L M V i = some ((place X L (min M (64 - L)) V : Nat) : Int) := by
 induction d with
 | zero =>
  intro k i hi hk
  obtain ⟨k, rfl⟩ : ∃ m, k = m + 2 := ⟨k - 2, by omega⟩
  simp only [postbagref01_Place0.l0]
  have : postbagref01_Place0.j2 (k + 1) ((place X L i V : Nat) : Int) L M V i false = some ((place X L (min M (64 - L)) V : Nat) : Int) := by
   simp only [postbagref01_Place0.j2]; rw [if_neg (by decide), ← hi]; rfl
  by_cases hM : (i : Int) < M
  ·rw [if_pos hM, I64.wrap_eq (by unfold I64; omega), decide_eq_false (by omega)]; exact this
  ·rw [if_neg hM]; exact this
 | succ d ih =>
  intro k i hi hk
  obtain ⟨k, rfl⟩ : ∃ m, k = m + 2 := ⟨k - 2, by omega⟩
  simp only [postbagref01_Place0.l0]
  rw [if_pos (by omega), I64.wrap_eq (by unfold I64; omega), decide_eq_true (by omega)]
  simp only [postbagref01_Place0.j2]
  have hY : place X L i V < 2 ^ 64 := place_lt X L i V hX (by omega)
  have hZ : place X L (i + 1) V < 2 ^ 64 := place_lt X L (i + 1) V hX (by omega)
  rw [if_pos trivial, I64.wrap_eq (show I64 ((L : Int) + i) by unfold I64; omega), I64.wrap_eq (show I64 ((i : Int) + 1) by unfold I64; omega), postbagref01_Bit.eq (U64.mk hY), postbagref01_Bit.eq (U64.mk hV)]
  simp only [Option.bind_some, postbagref01_power.f]
  rw [show ((L : Int) + i) = ((L + i : Nat) : Int) from by omega, bit_nat _ _ (show L + i < 64 by omega), bit_nat _ _ (show i < 64 by omega)]
  have e2 : powOf ((L + i : Nat) : Int) = ((2 ^ (L + i) : Nat) : Int) := by unfold powOf; rw [if_neg (by omega), if_neg (by omega), Int.toNat_natCast, ipow]
  have hp : 2 ^ (L + i) < 2 ^ 64 := Nat.pow_lt_pow_right (by decide) (by omega)
  have hb : ∀ c : Bool, IntKind.u64.wrap (((c.toNat : Nat) : Int) * ((2 ^ (L + i) : Nat) : Int)) = ((c.toNat * 2 ^ (L + i) : Nat) : Int) := by
   intro c; rw [← Int.natCast_mul]; refine wrap_nat _ ?_; cases c <;> simp <;> omega
  have hle : ((place X L i V).testBit (L + i)).toNat * 2 ^ (L + i) ≤ place X L i V := by
   cases ht : (place X L i V).testBit (L + i)
   ·simp
   ·have := Nat.ge_two_pow_of_testBit ht; simpa using this
  have hps := put_bit (place X L i V) (L + i) (V.testBit i)
  rw [place_succ] at hps
  rw [e2, hb, hb, ← Int.natCast_sub hle, wrap_nat _ (by omega), ← Int.natCast_add, hps, wrap_nat _ hZ, show ((i : Int) + 1) = ((i + 1 : Nat) : Int) from by omega]
  exact ih k (i + 1) (by omega) (by omega)
theorem postbagref01_Place.spec (a0 a1 a2 a3 r : Int) (h : postbagref01_Place.f a0 a1 a2 a3 = some r) : ∃ k, postbagref01_Place0.f k a0 a1 a2 a3 = some r := by
 unfold postbagref01_Place.f at h
 by_cases hu : U64 a0 ∧ U64 a3
 ·rw [if_pos hu] at h
  obtain rfl := Option.some.inj h
  refine ⟨133, ?_⟩
  unfold postbagref01_Place0.f
  by_cases h1 : a1 < 0
  ·rw [if_pos h1]; simp only [postbagref01_Place0.j0, if_true, placeOf]; rw [if_pos (Or.inl h1)]
  ·rw [if_neg h1]
   by_cases h2 : a1 > 63
   ·rw [if_pos h2]; simp only [postbagref01_Place0.j0, if_true, placeOf]; rw [if_pos (Or.inr (Or.inl h2))]
   ·rw [if_neg h2]
    by_cases h3 : a2 < 1
    ·rw [decide_eq_true h3]; simp only [postbagref01_Place0.j0, if_true, placeOf]; rw [if_pos (Or.inr (Or.inr h3))]
    ·rw [decide_eq_false h3]
     simp only [postbagref01_Place0.j0]
     obtain ⟨X, rfl, hX⟩ := hu.1.nat
     obtain ⟨V, rfl, hV⟩ := hu.2.nat
     obtain ⟨L, rfl⟩ : ∃ L : Nat, a1 = L := ⟨a1.toNat, by omega⟩
     obtain ⟨M, rfl⟩ : ∃ M : Nat, a2 = M := ⟨a2.toNat, by omega⟩
     have h := postbagref01_Place.loop X L M V hX hV (by omega) (min M (64 - L)) 132 0 (by omega) (by omega)
     rw [if_neg (by decide), place_nat X L M V (by omega) (by omega)]
     rw [place_zero] at h
     exact h
 ·rw [if_neg hu] at h; exact absurd h (by simp)
theorem postbagref01_Place.calls (a0 : Int) (a1 : Int) (a2 : Int) (a3 : Int) (r : Int) (w : World) (h : postbagref01_Place.f a0 a1 a2 a3 = some r) :
  Calls Tryz.prog 74 #[.int .u64 a0, .int .i64 a1, .int .i64 a2, .int .u64 a3] w fun e w' => e = .returned (.int .u64 r) ∧ Drawn0 w w' := by
 obtain ⟨k, hk⟩ := postbagref01_Place.spec a0 a1 a2 a3 r h
 exact postbagref01_Place0.calls k a0 a1 a2 a3 r w hk
def postbagref02_part0.f (a0 : Int) (a1 : Int) (a2 : Int) (a3 : Int) : Option (Int) := (postbagref01_Field.f (IntKind.u64.wrap (a0)) a1 a2).bind fun t279 => ((postbagref01_Place.f 0 a3 a2 t279).bind fun t280 => (some t280))
set_option maxHeartbeats 8000000 in
set_option maxRecDepth 100000 in
theorem postbagref02_part0.calls (a0 : Int) (a1 : Int) (a2 : Int) (a3 : Int) (r : Int) (w : World) (h : postbagref02_part0.f a0 a1 a2 a3 = some r) :
  Calls Tryz.prog 95 #[.int .i64 a0, .int .i64 a1, .int .i64 a2, .int .i64 a3] w fun e w' => e = .returned (.int .u64 r) ∧ Drawn0 w w' := by
 have H := h
 clear h
 unfold postbagref02_part0.f at H
 obtain ⟨t279, A5, H⟩ := bam H
 try dsimp only at H
 replace H := Option.bind_eq_some_iff.mp H
 obtain ⟨t280, A60, H⟩ := H
 replace H : (some t280) = some r := H
 have A6 := am A60
 clear A60
 obtain rfl := Option.some.inj H
 go_enter Tryz.func95, Tryz.ntmps95
 go_wp2_with (first | ((with_reducible refine gate_callee (f := 98) rfl ?_); refine gl (some 15) rfl rfl Tryz.func98 rfl #[.int .u64 (IntKind.u64.wrap (a0)), .int .i64 a1, .int .i64 a2] rfl ?_; (with_reducible refine (postbagref01_Field.calls (IntKind.u64.wrap (a0)) a1 a2 t279 _ A5.out).mono ?_); rintro e w' ⟨rfl, ⟨nd, rfl⟩⟩; refine ⟨_, rfl, ?_⟩) | ((with_reducible refine gate_callee (f := 74) rfl ?_); refine gl (some 16) rfl rfl Tryz.func74 rfl #[.int .u64 0, .int .i64 a3, .int .i64 a2, .int .u64 t279] rfl ?_; (with_reducible refine (postbagref01_Place.calls 0 a3 a2 t279 t280 _ A6.out).mono ?_); rintro e w' ⟨rfl, ⟨nd, rfl⟩⟩; refine ⟨_, rfl, ?_⟩))
 go_ret
 exact fd
theorem wrap_field (v : Int) (low n : Nat) (hl : low + n ≤ 64) : IntKind.u64.wrap v / 2 ^ low % 2 ^ n = v / 2 ^ low % 2 ^ n := by
 have hs : (18446744073709551616 : Int) = 2 ^ low * (2 ^ n * 2 ^ (64 - low - n)) := by
  rw [← Int.pow_add, ← Int.pow_add, show low + (n + (64 - low - n)) = 64 by omega]; rfl
 have hd := Int.emod_add_mul_ediv v (2 ^ low * (2 ^ n * 2 ^ (64 - low - n)))
 rw [u64w, hs]
 generalize v % (2 ^ low * (2 ^ n * 2 ^ (64 - low - n))) = r at *
 generalize v / (2 ^ low * (2 ^ n * 2 ^ (64 - low - n))) = q at *
 rw [← hd, Int.mul_assoc, Int.add_mul_ediv_left _ _ (Int.ne_of_gt (ipos low)), Int.mul_assoc, Int.add_mul_emod_self_left]
theorem place_null (v : Int) (k n : Nat) (hv : 0 ≤ v ∧ v < 2 ^ n) (hk : k + n ≤ 64) (h1 : 1 ≤ n) : placeOf 0 k n v = v * 2 ^ k := by
 obtain ⟨x, rfl⟩ := Int.eq_ofNat_of_zero_le hv.1
 have hx : x < 2 ^ n := by have := hv.2; rw [ipow] at this; omega
 have h := place_nat 0 k n x (by omega) h1
 rw [show ((0 : Nat) : Int) = 0 from rfl] at h
 rw [h, show min n (64 - k) = n by omega, place, Nat.mod_eq_of_lt hx]
 simp [Int.mul_comm]
def postbagref02_part.f (a0 : Int) (a1 : Int) (a2 : Int) (a3 : Int) : Option (Int) := if 0 ≤ a1 ∧ 1 ≤ a2 ∧ 0 ≤ a3 ∧ a1 + a2 ≤ 64 ∧ a3 + a2 ≤ 64 then some (a0 / 2 ^ a1.toNat % 2 ^ a2.toNat * 2 ^ a3.toNat) else none
theorem postbagref02_part.spec (a0 a1 a2 a3 r : Int) (h : postbagref02_part.f a0 a1 a2 a3 = some r) : postbagref02_part0.f a0 a1 a2 a3 = some r := by
 unfold postbagref02_part.f at h
 split at h
 ·rename_i hc
  obtain rfl := Option.some.inj h
  obtain ⟨low, rfl⟩ := Int.eq_ofNat_of_zero_le hc.1
  obtain ⟨n, rfl⟩ := Int.eq_ofNat_of_zero_le (show 0 ≤ a2 by omega)
  obtain ⟨k, rfl⟩ := Int.eq_ofNat_of_zero_le hc.2.2.1
  unfold postbagref02_part0.f postbagref01_Field.f postbagref01_Place.f
  rw [if_pos (U64.wrap _)]
  simp only [Option.bind_some]
  rw [field_lit _ low n (by omega) (by omega) (by omega), wrap_field a0 low n (by omega)]
  have p1 := ipos n
  have b0 : 0 ≤ a0 / 2 ^ low % 2 ^ n := Int.emod_nonneg _ (Int.ne_of_gt p1)
  have b1 : a0 / 2 ^ low % 2 ^ n < 2 ^ n := Int.emod_lt_of_pos _ p1
  have b2 := ipow_le n 64 (by omega)
  rw [if_pos ⟨by unfold U64; omega, by unfold U64; omega⟩, place_null _ k n ⟨b0, b1⟩ (by omega) (by omega)]
  simp
 ·simp at h
theorem postbagref02_part.calls (a0 : Int) (a1 : Int) (a2 : Int) (a3 : Int) (r : Int) (w : World) (h : postbagref02_part.f a0 a1 a2 a3 = some r) :
  Calls Tryz.prog 95 #[.int .i64 a0, .int .i64 a1, .int .i64 a2, .int .i64 a3] w fun e w' => e = .returned (.int .u64 r) ∧ Drawn0 w w' := by
 have hk := postbagref02_part.spec a0 a1 a2 a3 r h
 exact postbagref02_part0.calls a0 a1 a2 a3 r w hk
def postbagref02_flag0.f (a0 : Bool) (a1 : Int) : Option (Int) := if a0 = true then ((postbagref02_part.f 1 0 1 a1).bind fun t281 => (some t281)) else (some 0)
set_option maxHeartbeats 8000000 in
set_option maxRecDepth 100000 in
theorem postbagref02_flag0.calls (a0 : Bool) (a1 : Int) (r : Int) (w : World) (h : postbagref02_flag0.f a0 a1 = some r) :
  Calls Tryz.prog 96 #[.bool a0, .int .i64 a1] w fun e w' => e = .returned (.int .u64 r) ∧ Drawn0 w w' := by
 have H := h
 clear h
 unfold postbagref02_flag0.f at H
 by_cases c3 : a0 = true
 ·subst c3
  rw [if_pos rfl] at H
  replace H := Option.bind_eq_some_iff.mp H
  obtain ⟨t281, A40, H⟩ := H
  replace H : (some t281) = some r := H
  have A4 := am A40
  clear A40
  obtain rfl := Option.some.inj H
  go_enter Tryz.func96, Tryz.ntmps96
  go_wp2_with (first | ((with_reducible refine gate_callee (f := 95) rfl ?_); refine gl (some 7) rfl rfl Tryz.func95 rfl #[.int .i64 1, .int .i64 0, .int .i64 1, .int .i64 a1] rfl ?_; (with_reducible refine (postbagref02_part.calls 1 0 1 a1 t281 _ A4.out).mono ?_); rintro e w' ⟨rfl, ⟨nd, rfl⟩⟩; refine ⟨_, rfl, ?_⟩))
  go_ret
  exact fd
 ·replace c3 := Bool.eq_false_iff.mpr c3
  subst c3
  rw [if_neg ff] at H
  obtain rfl := Option.some.inj H
  go_enter Tryz.func96, Tryz.ntmps96
  go_wp2
  go_ret
  exact fd
def postbagref02_flag.f (a0 : Bool) (a1 : Int) : Option (Int) := if 0 ≤ a1 ∧ a1 ≤ 63 then some (if a0 then 2 ^ a1.toNat else 0) else none
theorem postbagref02_flag.spec (a0 : Bool) (a1 r : Int) (h : postbagref02_flag.f a0 a1 = some r) : postbagref02_flag0.f a0 a1 = some r := by
 unfold postbagref02_flag.f at h
 split at h
 ·rename_i hc
  obtain rfl := Option.some.inj h
  unfold postbagref02_flag0.f postbagref02_part.f
  have hc' : 0 ≤ (0 : Int) ∧ (1 : Int) ≤ 1 ∧ 0 ≤ a1 ∧ (0 : Int) + 1 ≤ 64 ∧ a1 + 1 ≤ 64 := ⟨by omega, by omega, by omega, by omega, by omega⟩
  rw [if_pos hc']
  cases a0 <;> simp
 ·simp at h
theorem postbagref02_flag.calls (a0 : Bool) (a1 : Int) (r : Int) (w : World) (h : postbagref02_flag.f a0 a1 = some r) :
  Calls Tryz.prog 96 #[.bool a0, .int .i64 a1] w fun e w' => e = .returned (.int .u64 r) ∧ Drawn0 w w' := by
 have hk := postbagref02_flag.spec a0 a1 r h
 exact postbagref02_flag0.calls a0 a1 r w hk
def partOf (v low n k : Int) : Int := v / 2 ^ low.toNat % 2 ^ n.toNat * 2 ^ k.toNat
def flagOf (b : Bool) (k : Int) : Int := if b then 2 ^ k.toNat else 0
theorem part.c (v low n k : Int) (W : World) (h : 0 ≤ low ∧ 1 ≤ n ∧ 0 ≤ k ∧ low + n ≤ 64 ∧ k + n ≤ 64) : Calls Tryz.prog 95 #[.int .i64 v, .int .i64 low, .int .i64 n, .int .i64 k] W fun e w' => e = .returned (.int .u64 (partOf v low n k)) ∧ Drawn0 W w' :=
 postbagref02_part.calls v low n k _ W (by unfold postbagref02_part.f; rw [if_pos h]; rfl)
theorem flag.c (b : Bool) (k : Int) (W : World) (h : 0 ≤ k ∧ k ≤ 63) : Calls Tryz.prog 96 #[.bool b, .int .i64 k] W fun e w' => e = .returned (.int .u64 (flagOf b k)) ∧ Drawn0 W w' :=
 postbagref02_flag.calls b k _ W (by unfold postbagref02_flag.f; rw [if_pos h]; rfl)
theorem in_draw {P : Program} {f : FuncId} {args : Array Value} {w : World} {v : Value} {n : Nat} (h : ∀ W, Calls P f args W fun e w' => e = .returned v ∧ Drawn0 W w') : Calls P f args (w.drewN n) fun e w'' => e = .returned v ∧ ∃ m, w'' = w.drewN m :=
 (h _).mono fun _ _ ⟨he, ⟨m, hm⟩⟩ => ⟨he, n + m, by rw [hm, World.drewN_drewN]⟩
theorem enc_range (op rd rs1 rs2 imm : Int) (aq rl : Bool) (hg : goodOf op rd rs1 rs2 imm aq rl = true) : 0 ≤ encOf op rd rs1 rs2 imm aq rl ∧ encOf op rd rs1 rs2 imm aq rl < 4294967296 := by
 have G := goodI hg
 obtain ⟨n1, n2, n3, n4, n5, n6, n7, n8⟩ := nums_range op
 have b1 := G.rd0
 have b2 := G.rd1
 have b3 := G.rs10
 have b4 := G.rs11
 have b5 := G.rs20
 have b6 := G.rs21
 have bA := G.aqh
 have d1 := G.rdh
 have d2 := G.rs1h
 have d3 := G.rs2h
 have hc := form_cases op
 clear G hg
 unfold encOf
 generalize codeOf op = c at *
 generalize f3Of op = x3 at *
 generalize f7Of op = x7 at *
 generalize formOf op = f at *
 rcases hc with rfl | rfl | rfl | rfl | rfl | rfl | rfl | rfl | rfl | rfl | rfl | rfl | rfl
 all_goals (try (have hz := bA; simp [hasAq] at hz; obtain ⟨hz1, hz2⟩ := hz; subst hz1 hz2))
 all_goals (try (have hz := d1; simp [hasRd] at hz; subst hz))
 all_goals (try (have hz := d2; simp [hasRs1] at hz; subst hz))
 all_goals (try (have hz := d3; simp [hasRs2] at hz; subst hz))
 all_goals simp [highOf, immWord]
 all_goals (try (cases aq <;> cases rl <;> simp))
 all_goals omega
theorem ret_pair {a b : Int} (h : a = b) : Ending.returned (.tuple #[.int .u32 a, .int .i64 0]) = .returned (.tuple #[.int .u32 b, .int .i64 0]) := by rw [h]
set_option maxHeartbeats 4000000 in
theorem postbagref02_Encode.w (a0_0 a0_1 a0_2 a0_3 a0_4 f c x3 x7 : Int) (a0_5 a0_6 : Bool) (w : World)
  (hG : Hid (∀ W, Calls Tryz.prog 68 #[.agg #[.int .i64 a0_0, .int .i64 a0_1, .int .i64 a0_2, .int .i64 a0_3, .int .i64 a0_4, .bool a0_5, .bool a0_6]] W fun e w' => e = .returned (.bool true) ∧ Below W.heap.size W w'))
  (hO : Hid (∀ W, Calls Tryz.prog 69 #[.int .i64 a0_0] W fun e w' => e = .returned (.agg #[.int .i64 f, .int .i64 c, .int .i64 x3, .int .i64 x7]) ∧ Below W.heap.size W w'))
  (hc : f = 1 ∨ f = 2 ∨ f = 3 ∨ f = 4 ∨ f = 5 ∨ f = 6 ∨ f = 7 ∨ f = 8 ∨ f = 9 ∨ f = 10 ∨ f = 11 ∨ f = 12)
  (R : Int) (hR : Hid (c + partOf x3 0 3 12 + partOf a0_1 0 5 7 + partOf a0_2 0 5 15 + partOf a0_3 0 5 20 + highOf f x7 + immWord f a0_4 + (if hasAq f then flagOf a0_5 26 + flagOf a0_6 25 else 0) = R ∧ 0 ≤ R ∧ R < 4294967296))
  (h7 : Hid (0 ≤ x7 ∧ x7 < 64 ∧ (f = 11 ∨ f = 12 → x7 < 32))) (hi7 : Hid (f = 7 → 0 ≤ a0_4 ∧ a0_4 < 32)) :
  Calls Tryz.prog 61 #[.agg #[.int .i64 a0_0, .int .i64 a0_1, .int .i64 a0_2, .int .i64 a0_3, .int .i64 a0_4, .bool a0_5, .bool a0_6]] w fun e w' => e = .returned (.tuple #[.int .u32 R, .int .i64 0]) ∧ Below w.heap.size w w' := by
 rcases hc with rfl | rfl | rfl | rfl | rfl | rfl | rfl | rfl | rfl | rfl | rfl | rfl
 all_goals (
  go_enter Tryz.func61, Tryz.ntmps61
  go_wp2_with fail
  refine (hG.out _).mono ?_
  rintro e w1 ⟨rfl, hb⟩
  have B1 := (Blk.new w _ _).below hb
  have hb := Lib.hid ((((Below.refl w.heap.size w).alloc (Nat.le_refl _) _).trans (hb.mono (by simp))))
  have c1 := B1.cell
  go_wp2_with fail
  refine (hO.out _).mono ?_
  rintro e w2 ⟨rfl, hb2⟩
  replace B1 := B1.below hb2
  replace hb := Lib.hid (hb.out.trans (hb2.mono hb.out.size))
  clear hb2 c1
  have c1 := B1.cell
  have l1 := B1.lt
  go_wp2_with fail
  generalize hX : World.alloc w2 _ = X
  have K1 := B1.alloc_eq hX
  have K2 := Blk.new_eq hX
  have HX := Lib.hid (below_alloc_eq hb.out hb.out.size hX)
  clear hX c1 l1 B1 hb
  have k1 := K1.cell
  have k2 := K2.cell
  have K1 := Lib.hid K1
  have K2 := Lib.hid K2
  go_wp2_with fail
  refine wp_region_quiet_lit (by kernel_rfl) (by kernel_rfl) ?_
  repeat (first | go_big_quiet_step ((go_at_call 95; exact in_draw (fun W => part.c _ _ _ _ W (by omega)))) | quiet_step ((go_at_call 95; exact in_draw (fun W => part.c _ _ _ _ W (by omega)))))
  refine wpQuiet_nil ?_
  intro _ hw'
  obtain ⟨nq, hw''⟩ := hw'
  subst hw''
  generalize hZ : World.drewN X nq = Z
  have L1 := hZ ▸ K1.out.drewN (n := nq)
  have L2 := hZ ▸ K2.out.drewN (n := nq)
  have HZ := Lib.hid (hZ ▸ below_drewN HX.out nq)
  clear hZ k1 k2 K1 K2 HX
  have k1 := L1.cell
  have k2 := L2.cell
  have L1 := Lib.hid L1
  have L2 := Lib.hid L2
  go_wp2_with (first | (go_at_call 95; refine (part.c _ _ _ _ _ (by omega)).mono ?_; rintro e w3 ⟨rfl, ⟨nd, rfl⟩⟩)))
 all_goals (try (
  refine wp_region_quiet_lit (by kernel_rfl) (by kernel_rfl) ?_
  repeat (first | go_big_quiet_step ((first | (go_at_call 95; exact in_draw (fun W => part.c _ _ _ _ W (by omega))) | (go_at_call 96; exact in_draw (fun W => flag.c _ _ W (by omega))))) | quiet_step ((first | (go_at_call 95; exact in_draw (fun W => part.c _ _ _ _ W (by omega))) | (go_at_call 96; exact in_draw (fun W => flag.c _ _ W (by omega))))))
  refine wpQuiet_nil ?_
  intro _ hw'
  obtain ⟨nq2, hw''⟩ := hw'
  subst hw''
  go_wp2))
 all_goals go_ret2
 all_goals (
  refine ⟨ret_pair ?_, by repeat (first | exact HZ.out | apply below_drewN)⟩
  obtain ⟨hR, r1, r2⟩ := hR.out
  have g7 := h7.out
  have gi := hi7.out
  clear hG hO HZ k1 k2 L1 L2
  simp [highOf, immWord, hasAq] at hR
  have wa : ∀ x y : Int, IntKind.u64.wrap (IntKind.u64.wrap x + y) = IntKind.u64.wrap (x + y) := by intro x y; rw [u64w, u64w, u64w]; omega
  try simp only [wa]
  subst hR
  simp [partOf, flagOf, u64w] at *
  try omega)
set_option maxHeartbeats 1000000 in
theorem postbagref02_Encode.n (a0_0 a0_1 a0_2 a0_3 a0_4 : Int) (a0_5 a0_6 : Bool) (w : World)
  (hG : Hid (∀ W, Calls Tryz.prog 68 #[.agg #[.int .i64 a0_0, .int .i64 a0_1, .int .i64 a0_2, .int .i64 a0_3, .int .i64 a0_4, .bool a0_5, .bool a0_6]] W fun e w' => e = .returned (.bool false) ∧ Below W.heap.size W w')) :
  Calls Tryz.prog 61 #[.agg #[.int .i64 a0_0, .int .i64 a0_1, .int .i64 a0_2, .int .i64 a0_3, .int .i64 a0_4, .bool a0_5, .bool a0_6]] w fun e w' => e = .returned (.tuple #[.int .u32 0, .int .i64 20]) ∧ Below w.heap.size w w' := by
 go_enter Tryz.func61, Tryz.ntmps61
 go_wp2_with fail
 refine (hG.out _).mono ?_
 rintro e w1 ⟨rfl, hb⟩
 have hb := Lib.hid ((((Below.refl w.heap.size w).alloc (Nat.le_refl _) _).trans (hb.mono (by simp))))
 go_wp2_with fail
 go_ret2
 exact ⟨rfl, hb.out⟩
def postbagref02_Encode.f (a0_0 : Int) (a0_1 : Int) (a0_2 : Int) (a0_3 : Int) (a0_4 : Int) (a0_5 : Bool) (a0_6 : Bool) : Option (Int × Int) := if I64 a0_4 then (if goodOf a0_0 a0_1 a0_2 a0_3 a0_4 a0_5 a0_6 = true then some (encOf a0_0 a0_1 a0_2 a0_3 a0_4 a0_5 a0_6, 0) else some (0, 20)) else none
theorem postbagref02_Encode.calls (a0_0 : Int) (a0_1 : Int) (a0_2 : Int) (a0_3 : Int) (a0_4 : Int) (a0_5 : Bool) (a0_6 : Bool) (r1 : Int) (r2 : Int) (w : World) (h : postbagref02_Encode.f a0_0 a0_1 a0_2 a0_3 a0_4 a0_5 a0_6 = some (r1, r2)) :
  Calls Tryz.prog 61 #[.agg #[.int .i64 a0_0, .int .i64 a0_1, .int .i64 a0_2, .int .i64 a0_3, .int .i64 a0_4, .bool a0_5, .bool a0_6]] w fun e w' => e = .returned (.tuple #[.int .u32 r1, .int .i64 r2]) ∧ Below w.heap.size w w' := by
 unfold postbagref02_Encode.f at h
 by_cases hI : I64 a0_4
 case neg => rw [if_neg hI] at h; simp at h
 rw [if_pos hI] at h
 have gc := fun b hb => Lib.hid (fun W => postbagref02_Good.calls a0_0 a0_1 a0_2 a0_3 a0_4 a0_5 a0_6 b W (by unfold postbagref02_Good.f; rw [if_pos hI]; exact congrArg some hb))
 by_cases hg : goodOf a0_0 a0_1 a0_2 a0_3 a0_4 a0_5 a0_6 = true
 ·rw [if_pos hg] at h
  simp only [Option.some.injEq, Prod.mk.injEq] at h
  obtain ⟨rfl, rfl⟩ := h
  have G := goodI hg
  have hp : 0 < formOf a0_0 := by
   have h := hg
   simp only [goodOf, Bool.and_eq_true, decide_eq_true_eq] at h
   exact h.1
  obtain ⟨n1, n2, n3, n4, n5, n6, n7, n8⟩ := nums_range a0_0
  have b1 := G.rd0
  have b2 := G.rd1
  have b3 := G.rs10
  have b4 := G.rs11
  have b5 := G.rs20
  have b6 := G.rs21
  have S := enc_range a0_0 a0_1 a0_2 a0_3 a0_4 a0_5 a0_6 hg
  refine postbagref02_Encode.w a0_0 a0_1 a0_2 a0_3 a0_4 (formOf a0_0) (codeOf a0_0) (f3Of a0_0) (f7Of a0_0) a0_5 a0_6 w (gc true hg) (fun W => postbagref02_Row.c a0_0 W) (by have := form_cases a0_0; omega) _ ⟨?_, S.1, S.2⟩ ⟨n4.1, n4.2, n5⟩ ?_
  ·have m1 : partOf (f3Of a0_0) 0 3 12 = f3Of a0_0 * 4096 := by simp [partOf]; omega
   have m2 : partOf a0_1 0 5 7 = a0_1 * 128 := by simp [partOf]; omega
   have m3 : partOf a0_2 0 5 15 = a0_2 * 32768 := by simp [partOf]; omega
   have m4 : partOf a0_3 0 5 20 = a0_3 * 1048576 := by simp [partOf]; omega
   rw [m1, m2, m3, m4]
   unfold encOf
   cases hA : hasAq (formOf a0_0)
   ·obtain ⟨rfl, rfl⟩ := G.aqh hA
    simp
   ·cases a0_5 <;> cases a0_6 <;> simp [flagOf] <;> omega
  ·intro h7
   have hi := G.immh
   rw [h7] at hi
   simp [immOf] at hi
   omega
 ·have hg' : goodOf a0_0 a0_1 a0_2 a0_3 a0_4 a0_5 a0_6 = false := by simpa using hg
  rw [if_neg hg] at h
  simp only [Option.some.injEq, Prod.mk.injEq] at h
  obtain ⟨rfl, rfl⟩ := h
  exact postbagref02_Encode.n a0_0 a0_1 a0_2 a0_3 a0_4 a0_5 a0_6 w (gc false hg')
def postbagref02_Decode0.l0 : Nat → Int → Int → Option (Int × Int × Int × Int × Int × Bool × Bool × Int)
 | 0, _, _ => none
 | k + 1, x0, x4 => if x4 ≤ 87 then ((postbagref02_as.f x4 x0).bind fun bt283 => ((postbagref02_Encode.f bt283.1 bt283.2.1 bt283.2.2.1 bt283.2.2.2.1 bt283.2.2.2.2.1 bt283.2.2.2.2.2.1 bt283.2.2.2.2.2.2).bind fun bt291 => (if bt291.2 = 0 then (if bt291.1 = x0 then (some (bt283.1, bt283.2.1, bt283.2.2.1, bt283.2.2.2.1, bt283.2.2.2.2.1, bt283.2.2.2.2.2.1, bt283.2.2.2.2.2.2, 0)) else (postbagref02_Decode0.l0 k x0 (wrap64 (x4 + 1)))) else (postbagref02_Decode0.l0 k x0 (wrap64 (x4 + 1)))))) else (some (0, 0, 0, 0, 0, false, false, 21))
def postbagref02_Decode0.f (k : Nat) (a0 : Int) : Option (Int × Int × Int × Int × Int × Bool × Bool × Int) := postbagref02_Decode0.l0 k a0 1
theorem postbagref02_Decode0.mono_l : ∀ k, (∀ y0 y1, LeO (postbagref02_Decode0.l0 k y0 y1) (postbagref02_Decode0.l0 (k + 1) y0 y1))
 | 0 => fun _ _ r h => by simp [postbagref02_Decode0.l0] at h
 | k + 1 => by
  have ih0 := postbagref02_Decode0.mono_l k
  ·intro y0 y1
   unfold postbagref02_Decode0.l0
   exact leo
theorem postbagref02_Decode0.mono : ∀ a0 k, LeO (postbagref02_Decode0.f k a0) (postbagref02_Decode0.f (k + 1) a0) := by
 intro a0 k
 have ih0 := postbagref02_Decode0.mono_l k
 unfold postbagref02_Decode0.f
 exact leo
set_option maxHeartbeats 8000000 in
set_option maxRecDepth 100000 in
theorem postbagref02_Decode0.calls (k : Nat) (a0 : Int) (r1 : Int) (r2 : Int) (r3 : Int) (r4 : Int) (r5 : Int) (r6 : Bool) (r7 : Bool) (r8 : Int) (w : World) (h : postbagref02_Decode0.f k a0 = some (r1, r2, r3, r4, r5, r6, r7, r8)) :
  Calls Tryz.prog 32 #[.int .u32 a0] w fun e w' => e = .returned (.tuple #[.agg #[.int .i64 r1, .int .i64 r2, .int .i64 r3, .int .i64 r4, .int .i64 r5, .bool r6, .bool r7], .int .i64 r8]) ∧ Below w.heap.size w w' := by
 have hu50 := Tryz.underlying50
 have HB := am (Below.refl w.heap.size w)
 have H := h
 clear h
 unfold postbagref02_Decode0.f at H
 have H' := am H
 clear H
 go_enter Tryz.func32, Tryz.ntmps32
 go_wp2_with (first | ((with_reducible refine gate_dst (N := 2) rfl ?_); refine be 2 50 #[.int .i64 0, .int .i64 0, .int .i64 0, .int .i64 0, .int .i64 0, .bool false, .bool false] ?_; intro gb282 hg w2 hbox hb; have BK282 := am hbox; have GW282 := bz HB hg; have GE282 := bz HB hg; replace HB := bn HB hb; clear hb hbox hg))
 go_loopg [4] k (fun kq v4 w' => ∃ (x4_1 : Int) (x283000_1 : Int) (x283001_1 : Int) (x283002_1 : Int) (x283003_1 : Int) (x283004_1 : Int) (x283005_1 : Bool) (x283006_1 : Bool), v4 = .int .i64 x4_1 ∧ Aside0 (postbagref02_Decode0.l0 kq a0 x4_1 = some (r1, r2, r3, r4, r5, r6, r7, r8)) ∧ Aside0 (kq ≤ k) ∧ Aside0 (w'.heap[gb282]? = some (.cells #[.int .i64 x283000_1, .int .i64 x283001_1, .int .i64 x283002_1, .int .i64 x283003_1, .int .i64 x283004_1, .bool x283005_1, .bool x283006_1] 50 (0, 0))) ∧ Aside0 (Below w.heap.size w w'))
 case atStart => exact ⟨(1), (0), (0), (0), (0), (0), (false), (false), fr, H', ⟨Nat.le_refl _⟩, ⟨bu BK282⟩, ⟨bs HB GE282⟩⟩
 case round =>
  clear H'
  try clear p2
  obtain ⟨x4_1, x283000_1, x283001_1, x283002_1, x283003_1, x283004_1, x283005_1, x283006_1, rfl, HA, HK1, BK282, HB⟩ := hrel
  cases gk with
  | zero => exact absurd HA.out (by simp [postbagref02_Decode0.l0])
  | succ k1 =>
   have H := HA.out
   clear HA
   simp only [postbagref02_Decode0.l0] at H
   by_cases c3 : x4_1 ≤ 87
   ·rw [if_pos c3] at H
    have c3b0 : decide (x4_1 ≤ 87) = true := decide_eq_true c3
    clear c3
    obtain ⟨⟨t283, t284, t285, t286, t287, t288, t289⟩, A4, H⟩ := bam H
    try dsimp only at H
    obtain ⟨⟨t291, t292⟩, A5, H⟩ := bam H
    try dsimp only at H
    by_cases c6 : t292 = 0
    ·rw [if_pos c6] at H
     obtain ⟨c6b0, c6b1⟩ := bqt c6
     clear c6
     by_cases c7 : t291 = a0
     ·rw [if_pos c7] at H
      obtain ⟨c7b0, c7b1⟩ := bqt c7
      clear c7
      simp only [Option.some.injEq, Prod.mk.injEq] at H
      obtain ⟨rfl, rfl, rfl, rfl, rfl, rfl, rfl, rfl⟩ := H
      go_wp2_with (first | ((with_reducible refine gate_callee (f := 60) rfl ?_); refine gl (some 14) rfl rfl Tryz.func60 rfl #[.int .i64 x4_1, .int .u32 a0] rfl ?_; (with_reducible refine (postbagref02_as.calls x4_1 a0 t283 t284 t285 t286 t287 t288 t289 _ A4.out).mono ?_); rintro e w8 ⟨rfl, hb⟩; refine ⟨_, rfl, ?_⟩; replace BK282 := bk BK282 hb; replace HB := bns HB GE282 hb; (try clear hb); (try clear hb2); (try clear hk); (try clear hi)) | ((with_reducible refine gate_dst (N := 5) rfl ?_); refine be 5 50 #[.int .i64 0, .int .i64 0, .int .i64 0, .int .i64 0, .int .i64 0, .bool false, .bool false] ?_; intro gb290 hg w9 hbox hb; have BK290 := am hbox; have GW290 := bzs HB GE282 hg; have GE290 := bzs HB GE282 hg; have NB282_290 := nl BK282 hg; have NB290_282 := ng BK282 hg; replace BK282 := bk BK282 hb; replace HB := bns HB GE282 hb; clear hb hbox hg; have hnb10 := NB290_282.out; have hnc10 := NB282_290.out; obtain ⟨z11_0, z11_1, z11_2, z11_3, z11_4, z11_5, z11_6, f11_0, f11_1, f11_2, f11_3, f11_4, f11_5, f11_6⟩ := cf7 BK290) | ((with_reducible refine gate_callee (f := 61) rfl ?_); refine gl (some 17) rfl rfl Tryz.func61 rfl #[.agg #[.int .i64 t283, .int .i64 t284, .int .i64 t285, .int .i64 t286, .int .i64 t287, .bool t288, .bool t289]] rfl ?_; (with_reducible refine (postbagref02_Encode.calls t283 t284 t285 t286 t287 t288 t289 t291 t292 _ A5.out).mono ?_); rintro e w12 ⟨rfl, hb⟩; refine ⟨_, rfl, ?_⟩; have n0_ := am (blk_below (g := gb282) (o := .cells #[.int .i64 x283000_1, .int .i64 x283001_1, .int .i64 x283002_1, .int .i64 x283003_1, .int .i64 x283004_1, .bool x283005_1, .bool x283006_1] 50 (0, 0)) (by (with_reducible repeat (first | refine blk_drewN ?_ _ | refine blk_drew ?_ | refine blk_alloc ?_ _)); refine blk_far ?_ NB282_290.out _; (with_reducible repeat (first | refine blk_drewN ?_ _ | refine blk_drew ?_ | refine blk_alloc ?_ _)); refine blk_far ?_ NB282_290.out _; (with_reducible repeat (first | refine blk_drewN ?_ _ | refine blk_drew ?_ | refine blk_alloc ?_ _)); refine blk_far ?_ NB282_290.out _; (with_reducible repeat (first | refine blk_drewN ?_ _ | refine blk_drew ?_ | refine blk_alloc ?_ _)); refine blk_far ?_ NB282_290.out _; (with_reducible repeat (first | refine blk_drewN ?_ _ | refine blk_drew ?_ | refine blk_alloc ?_ _)); refine blk_far ?_ NB282_290.out _; (with_reducible repeat (first | refine blk_drewN ?_ _ | refine blk_drew ?_ | refine blk_alloc ?_ _)); refine blk_far ?_ NB282_290.out _; (with_reducible repeat (first | refine blk_drewN ?_ _ | refine blk_drew ?_ | refine blk_alloc ?_ _)); refine blk_far ?_ NB282_290.out _; (with_reducible repeat (first | refine blk_drewN ?_ _ | refine blk_drew ?_ | refine blk_alloc ?_ _)); exact BK282.out) hb); have n1_ := am (blk_below (g := gb290) (o := .cells #[.int .i64 t283, .int .i64 t284, .int .i64 t285, .int .i64 t286, .int .i64 t287, .bool t288, .bool t289] 50 (0, 0)) (by (with_reducible repeat (first | refine blk_drewN ?_ _ | refine blk_drew ?_ | refine blk_alloc ?_ _)); refine blk_put (cs := #[.int .i64 t283, .int .i64 t284, .int .i64 t285, .int .i64 t286, .int .i64 t287, .bool t288, .bool false]) ?_ 6 _ rfl; (with_reducible repeat (first | refine blk_drewN ?_ _ | refine blk_drew ?_ | refine blk_alloc ?_ _)); refine blk_put (cs := #[.int .i64 t283, .int .i64 t284, .int .i64 t285, .int .i64 t286, .int .i64 t287, .bool false, .bool false]) ?_ 5 _ rfl; (with_reducible repeat (first | refine blk_drewN ?_ _ | refine blk_drew ?_ | refine blk_alloc ?_ _)); refine blk_put (cs := #[.int .i64 t283, .int .i64 t284, .int .i64 t285, .int .i64 t286, .int .i64 0, .bool false, .bool false]) ?_ 4 _ rfl; (with_reducible repeat (first | refine blk_drewN ?_ _ | refine blk_drew ?_ | refine blk_alloc ?_ _)); refine blk_put (cs := #[.int .i64 t283, .int .i64 t284, .int .i64 t285, .int .i64 0, .int .i64 0, .bool false, .bool false]) ?_ 3 _ rfl; (with_reducible repeat (first | refine blk_drewN ?_ _ | refine blk_drew ?_ | refine blk_alloc ?_ _)); refine blk_put (cs := #[.int .i64 t283, .int .i64 t284, .int .i64 0, .int .i64 0, .int .i64 0, .bool false, .bool false]) ?_ 2 _ rfl; (with_reducible repeat (first | refine blk_drewN ?_ _ | refine blk_drew ?_ | refine blk_alloc ?_ _)); refine blk_put (cs := #[.int .i64 t283, .int .i64 0, .int .i64 0, .int .i64 0, .int .i64 0, .bool false, .bool false]) ?_ 1 _ rfl; (with_reducible repeat (first | refine blk_drewN ?_ _ | refine blk_drew ?_ | refine blk_alloc ?_ _)); refine blk_put (cs := #[.int .i64 0, .int .i64 0, .int .i64 0, .int .i64 0, .int .i64 0, .bool false, .bool false]) ?_ 0 _ rfl; (with_reducible repeat (first | refine blk_drewN ?_ _ | refine blk_drew ?_ | refine blk_alloc ?_ _)); exact BK290.out) hb); have n2_ := bns2 HB GE282 GE290 hb; clear BK282; clear BK290; clear HB; have BK282 := n0_; have BK290 := n1_; have HB := n2_; clear n0_ n1_ n2_; (try clear hb); (try clear hb2); (try clear hk); (try clear hi); obtain ⟨z13_0, z13_1, z13_2, z13_3, z13_4, z13_5, z13_6, f13_0, f13_1, f13_2, f13_3, f13_4, f13_5, f13_6⟩ := cf7 BK290; obtain ⟨z14_0, z14_1, z14_2, z14_3, z14_4, z14_5, z14_6, f14_0, f14_1, f14_2, f14_3, f14_4, f14_5, f14_6⟩ := cf7 BK282))
      refine bodyPost_ret (results_ct rfl _ _ gb282 50 #[.int .i64 t283, .int .i64 t284, .int .i64 t285, .int .i64 t286, .int .i64 t287, .bool t288, .bool t289] (0, 0) _ rfl (by (with_reducible repeat (first | refine blk_drewN ?_ _ | refine blk_drew ?_ | refine blk_alloc ?_ _)); refine blk_put (cs := #[.int .i64 t283, .int .i64 t284, .int .i64 t285, .int .i64 t286, .int .i64 t287, .bool t288, .bool x283006_1]) ?_ 6 _ rfl; (with_reducible repeat (first | refine blk_drewN ?_ _ | refine blk_drew ?_ | refine blk_alloc ?_ _)); refine blk_put (cs := #[.int .i64 t283, .int .i64 t284, .int .i64 t285, .int .i64 t286, .int .i64 t287, .bool x283005_1, .bool x283006_1]) ?_ 5 _ rfl; (with_reducible repeat (first | refine blk_drewN ?_ _ | refine blk_drew ?_ | refine blk_alloc ?_ _)); refine blk_put (cs := #[.int .i64 t283, .int .i64 t284, .int .i64 t285, .int .i64 t286, .int .i64 x283004_1, .bool x283005_1, .bool x283006_1]) ?_ 4 _ rfl; (with_reducible repeat (first | refine blk_drewN ?_ _ | refine blk_drew ?_ | refine blk_alloc ?_ _)); refine blk_put (cs := #[.int .i64 t283, .int .i64 t284, .int .i64 t285, .int .i64 x283003_1, .int .i64 x283004_1, .bool x283005_1, .bool x283006_1]) ?_ 3 _ rfl; (with_reducible repeat (first | refine blk_drewN ?_ _ | refine blk_drew ?_ | refine blk_alloc ?_ _)); refine blk_put (cs := #[.int .i64 t283, .int .i64 t284, .int .i64 x283002_1, .int .i64 x283003_1, .int .i64 x283004_1, .bool x283005_1, .bool x283006_1]) ?_ 2 _ rfl; (with_reducible repeat (first | refine blk_drewN ?_ _ | refine blk_drew ?_ | refine blk_alloc ?_ _)); refine blk_put (cs := #[.int .i64 t283, .int .i64 x283001_1, .int .i64 x283002_1, .int .i64 x283003_1, .int .i64 x283004_1, .bool x283005_1, .bool x283006_1]) ?_ 1 _ rfl; (with_reducible repeat (first | refine blk_drewN ?_ _ | refine blk_drew ?_ | refine blk_alloc ?_ _)); refine blk_put (cs := #[.int .i64 x283000_1, .int .i64 x283001_1, .int .i64 x283002_1, .int .i64 x283003_1, .int .i64 x283004_1, .bool x283005_1, .bool x283006_1]) ?_ 0 _ rfl; (with_reducible repeat (first | refine blk_drewN ?_ _ | refine blk_drew ?_ | refine blk_alloc ?_ _)); exact BK282.out) Tryz.underlying50 rfl (by kernel_rfl)) rfl ?_
      exact ⟨fe, bs2 HB GE282 GE290⟩
     ·rw [if_neg c7] at H
      obtain ⟨c7b0, c7b1⟩ := bqf c7
      have H' := am H
      clear H
      go_wp2_with (first | ((with_reducible refine gate_callee (f := 60) rfl ?_); refine gl (some 14) rfl rfl Tryz.func60 rfl #[.int .i64 x4_1, .int .u32 a0] rfl ?_; (with_reducible refine (postbagref02_as.calls x4_1 a0 t283 t284 t285 t286 t287 t288 t289 _ A4.out).mono ?_); rintro e w15 ⟨rfl, hb⟩; refine ⟨_, rfl, ?_⟩; replace BK282 := bk BK282 hb; replace HB := bns HB GE282 hb; (try clear hb); (try clear hb2); (try clear hk); (try clear hi)) | ((with_reducible refine gate_dst (N := 5) rfl ?_); refine be 5 50 #[.int .i64 0, .int .i64 0, .int .i64 0, .int .i64 0, .int .i64 0, .bool false, .bool false] ?_; intro gb290 hg w16 hbox hb; have BK290 := am hbox; have GW290 := bzs HB GE282 hg; have GE290 := bzs HB GE282 hg; have NB282_290 := nl BK282 hg; have NB290_282 := ng BK282 hg; replace BK282 := bk BK282 hb; replace HB := bns HB GE282 hb; clear hb hbox hg; have hnb17 := NB290_282.out; have hnc17 := NB282_290.out; obtain ⟨z18_0, z18_1, z18_2, z18_3, z18_4, z18_5, z18_6, f18_0, f18_1, f18_2, f18_3, f18_4, f18_5, f18_6⟩ := cf7 BK290) | ((with_reducible refine gate_callee (f := 61) rfl ?_); refine gl (some 17) rfl rfl Tryz.func61 rfl #[.agg #[.int .i64 t283, .int .i64 t284, .int .i64 t285, .int .i64 t286, .int .i64 t287, .bool t288, .bool t289]] rfl ?_; (with_reducible refine (postbagref02_Encode.calls t283 t284 t285 t286 t287 t288 t289 t291 t292 _ A5.out).mono ?_); rintro e w19 ⟨rfl, hb⟩; refine ⟨_, rfl, ?_⟩; have n0_ := am (blk_below (g := gb282) (o := .cells #[.int .i64 x283000_1, .int .i64 x283001_1, .int .i64 x283002_1, .int .i64 x283003_1, .int .i64 x283004_1, .bool x283005_1, .bool x283006_1] 50 (0, 0)) (by (with_reducible repeat (first | refine blk_drewN ?_ _ | refine blk_drew ?_ | refine blk_alloc ?_ _)); refine blk_far ?_ NB282_290.out _; (with_reducible repeat (first | refine blk_drewN ?_ _ | refine blk_drew ?_ | refine blk_alloc ?_ _)); refine blk_far ?_ NB282_290.out _; (with_reducible repeat (first | refine blk_drewN ?_ _ | refine blk_drew ?_ | refine blk_alloc ?_ _)); refine blk_far ?_ NB282_290.out _; (with_reducible repeat (first | refine blk_drewN ?_ _ | refine blk_drew ?_ | refine blk_alloc ?_ _)); refine blk_far ?_ NB282_290.out _; (with_reducible repeat (first | refine blk_drewN ?_ _ | refine blk_drew ?_ | refine blk_alloc ?_ _)); refine blk_far ?_ NB282_290.out _; (with_reducible repeat (first | refine blk_drewN ?_ _ | refine blk_drew ?_ | refine blk_alloc ?_ _)); refine blk_far ?_ NB282_290.out _; (with_reducible repeat (first | refine blk_drewN ?_ _ | refine blk_drew ?_ | refine blk_alloc ?_ _)); refine blk_far ?_ NB282_290.out _; (with_reducible repeat (first | refine blk_drewN ?_ _ | refine blk_drew ?_ | refine blk_alloc ?_ _)); exact BK282.out) hb); have n1_ := am (blk_below (g := gb290) (o := .cells #[.int .i64 t283, .int .i64 t284, .int .i64 t285, .int .i64 t286, .int .i64 t287, .bool t288, .bool t289] 50 (0, 0)) (by (with_reducible repeat (first | refine blk_drewN ?_ _ | refine blk_drew ?_ | refine blk_alloc ?_ _)); refine blk_put (cs := #[.int .i64 t283, .int .i64 t284, .int .i64 t285, .int .i64 t286, .int .i64 t287, .bool t288, .bool false]) ?_ 6 _ rfl; (with_reducible repeat (first | refine blk_drewN ?_ _ | refine blk_drew ?_ | refine blk_alloc ?_ _)); refine blk_put (cs := #[.int .i64 t283, .int .i64 t284, .int .i64 t285, .int .i64 t286, .int .i64 t287, .bool false, .bool false]) ?_ 5 _ rfl; (with_reducible repeat (first | refine blk_drewN ?_ _ | refine blk_drew ?_ | refine blk_alloc ?_ _)); refine blk_put (cs := #[.int .i64 t283, .int .i64 t284, .int .i64 t285, .int .i64 t286, .int .i64 0, .bool false, .bool false]) ?_ 4 _ rfl; (with_reducible repeat (first | refine blk_drewN ?_ _ | refine blk_drew ?_ | refine blk_alloc ?_ _)); refine blk_put (cs := #[.int .i64 t283, .int .i64 t284, .int .i64 t285, .int .i64 0, .int .i64 0, .bool false, .bool false]) ?_ 3 _ rfl; (with_reducible repeat (first | refine blk_drewN ?_ _ | refine blk_drew ?_ | refine blk_alloc ?_ _)); refine blk_put (cs := #[.int .i64 t283, .int .i64 t284, .int .i64 0, .int .i64 0, .int .i64 0, .bool false, .bool false]) ?_ 2 _ rfl; (with_reducible repeat (first | refine blk_drewN ?_ _ | refine blk_drew ?_ | refine blk_alloc ?_ _)); refine blk_put (cs := #[.int .i64 t283, .int .i64 0, .int .i64 0, .int .i64 0, .int .i64 0, .bool false, .bool false]) ?_ 1 _ rfl; (with_reducible repeat (first | refine blk_drewN ?_ _ | refine blk_drew ?_ | refine blk_alloc ?_ _)); refine blk_put (cs := #[.int .i64 0, .int .i64 0, .int .i64 0, .int .i64 0, .int .i64 0, .bool false, .bool false]) ?_ 0 _ rfl; (with_reducible repeat (first | refine blk_drewN ?_ _ | refine blk_drew ?_ | refine blk_alloc ?_ _)); exact BK290.out) hb); have n2_ := bns2 HB GE282 GE290 hb; clear BK282; clear BK290; clear HB; have BK282 := n0_; have BK290 := n1_; have HB := n2_; clear n0_ n1_ n2_; (try clear hb); (try clear hb2); (try clear hk); (try clear hi)))
      go_roundg k1
      case measure => have := HK1.out; omega
      case rel => exact ⟨(wrap64 (x4_1 + 1)), (x283000_1), (x283001_1), (x283002_1), (x283003_1), (x283004_1), (x283005_1), (x283006_1), fr, H', ⟨by have := HK1.out; omega⟩, ⟨bu BK282⟩, ⟨bs2 HB GE282 GE290⟩⟩
    ·rw [if_neg c6] at H
     obtain ⟨c6b0, c6b1⟩ := bqf c6
     have H' := am H
     clear H
     go_wp2_with (first | ((with_reducible refine gate_callee (f := 60) rfl ?_); refine gl (some 14) rfl rfl Tryz.func60 rfl #[.int .i64 x4_1, .int .u32 a0] rfl ?_; (with_reducible refine (postbagref02_as.calls x4_1 a0 t283 t284 t285 t286 t287 t288 t289 _ A4.out).mono ?_); rintro e w20 ⟨rfl, hb⟩; refine ⟨_, rfl, ?_⟩; replace BK282 := bk BK282 hb; replace HB := bns HB GE282 hb; (try clear hb); (try clear hb2); (try clear hk); (try clear hi)) | ((with_reducible refine gate_dst (N := 5) rfl ?_); refine be 5 50 #[.int .i64 0, .int .i64 0, .int .i64 0, .int .i64 0, .int .i64 0, .bool false, .bool false] ?_; intro gb290 hg w21 hbox hb; have BK290 := am hbox; have GW290 := bzs HB GE282 hg; have GE290 := bzs HB GE282 hg; have NB282_290 := nl BK282 hg; have NB290_282 := ng BK282 hg; replace BK282 := bk BK282 hb; replace HB := bns HB GE282 hb; clear hb hbox hg; have hnb22 := NB290_282.out; have hnc22 := NB282_290.out; obtain ⟨z23_0, z23_1, z23_2, z23_3, z23_4, z23_5, z23_6, f23_0, f23_1, f23_2, f23_3, f23_4, f23_5, f23_6⟩ := cf7 BK290) | ((with_reducible refine gate_callee (f := 61) rfl ?_); refine gl (some 17) rfl rfl Tryz.func61 rfl #[.agg #[.int .i64 t283, .int .i64 t284, .int .i64 t285, .int .i64 t286, .int .i64 t287, .bool t288, .bool t289]] rfl ?_; (with_reducible refine (postbagref02_Encode.calls t283 t284 t285 t286 t287 t288 t289 t291 t292 _ A5.out).mono ?_); rintro e w24 ⟨rfl, hb⟩; refine ⟨_, rfl, ?_⟩; have n0_ := am (blk_below (g := gb282) (o := .cells #[.int .i64 x283000_1, .int .i64 x283001_1, .int .i64 x283002_1, .int .i64 x283003_1, .int .i64 x283004_1, .bool x283005_1, .bool x283006_1] 50 (0, 0)) (by (with_reducible repeat (first | refine blk_drewN ?_ _ | refine blk_drew ?_ | refine blk_alloc ?_ _)); refine blk_far ?_ NB282_290.out _; (with_reducible repeat (first | refine blk_drewN ?_ _ | refine blk_drew ?_ | refine blk_alloc ?_ _)); refine blk_far ?_ NB282_290.out _; (with_reducible repeat (first | refine blk_drewN ?_ _ | refine blk_drew ?_ | refine blk_alloc ?_ _)); refine blk_far ?_ NB282_290.out _; (with_reducible repeat (first | refine blk_drewN ?_ _ | refine blk_drew ?_ | refine blk_alloc ?_ _)); refine blk_far ?_ NB282_290.out _; (with_reducible repeat (first | refine blk_drewN ?_ _ | refine blk_drew ?_ | refine blk_alloc ?_ _)); refine blk_far ?_ NB282_290.out _; (with_reducible repeat (first | refine blk_drewN ?_ _ | refine blk_drew ?_ | refine blk_alloc ?_ _)); refine blk_far ?_ NB282_290.out _; (with_reducible repeat (first | refine blk_drewN ?_ _ | refine blk_drew ?_ | refine blk_alloc ?_ _)); refine blk_far ?_ NB282_290.out _; (with_reducible repeat (first | refine blk_drewN ?_ _ | refine blk_drew ?_ | refine blk_alloc ?_ _)); exact BK282.out) hb); have n1_ := am (blk_below (g := gb290) (o := .cells #[.int .i64 t283, .int .i64 t284, .int .i64 t285, .int .i64 t286, .int .i64 t287, .bool t288, .bool t289] 50 (0, 0)) (by (with_reducible repeat (first | refine blk_drewN ?_ _ | refine blk_drew ?_ | refine blk_alloc ?_ _)); refine blk_put (cs := #[.int .i64 t283, .int .i64 t284, .int .i64 t285, .int .i64 t286, .int .i64 t287, .bool t288, .bool false]) ?_ 6 _ rfl; (with_reducible repeat (first | refine blk_drewN ?_ _ | refine blk_drew ?_ | refine blk_alloc ?_ _)); refine blk_put (cs := #[.int .i64 t283, .int .i64 t284, .int .i64 t285, .int .i64 t286, .int .i64 t287, .bool false, .bool false]) ?_ 5 _ rfl; (with_reducible repeat (first | refine blk_drewN ?_ _ | refine blk_drew ?_ | refine blk_alloc ?_ _)); refine blk_put (cs := #[.int .i64 t283, .int .i64 t284, .int .i64 t285, .int .i64 t286, .int .i64 0, .bool false, .bool false]) ?_ 4 _ rfl; (with_reducible repeat (first | refine blk_drewN ?_ _ | refine blk_drew ?_ | refine blk_alloc ?_ _)); refine blk_put (cs := #[.int .i64 t283, .int .i64 t284, .int .i64 t285, .int .i64 0, .int .i64 0, .bool false, .bool false]) ?_ 3 _ rfl; (with_reducible repeat (first | refine blk_drewN ?_ _ | refine blk_drew ?_ | refine blk_alloc ?_ _)); refine blk_put (cs := #[.int .i64 t283, .int .i64 t284, .int .i64 0, .int .i64 0, .int .i64 0, .bool false, .bool false]) ?_ 2 _ rfl; (with_reducible repeat (first | refine blk_drewN ?_ _ | refine blk_drew ?_ | refine blk_alloc ?_ _)); refine blk_put (cs := #[.int .i64 t283, .int .i64 0, .int .i64 0, .int .i64 0, .int .i64 0, .bool false, .bool false]) ?_ 1 _ rfl; (with_reducible repeat (first | refine blk_drewN ?_ _ | refine blk_drew ?_ | refine blk_alloc ?_ _)); refine blk_put (cs := #[.int .i64 0, .int .i64 0, .int .i64 0, .int .i64 0, .int .i64 0, .bool false, .bool false]) ?_ 0 _ rfl; (with_reducible repeat (first | refine blk_drewN ?_ _ | refine blk_drew ?_ | refine blk_alloc ?_ _)); exact BK290.out) hb); have n2_ := bns2 HB GE282 GE290 hb; clear BK282; clear BK290; clear HB; have BK282 := n0_; have BK290 := n1_; have HB := n2_; clear n0_ n1_ n2_; (try clear hb); (try clear hb2); (try clear hk); (try clear hi)))
     go_roundg k1
     case measure => have := HK1.out; omega
     case rel => exact ⟨(wrap64 (x4_1 + 1)), (x283000_1), (x283001_1), (x283002_1), (x283003_1), (x283004_1), (x283005_1), (x283006_1), fr, H', ⟨by have := HK1.out; omega⟩, ⟨bu BK282⟩, ⟨bs2 HB GE282 GE290⟩⟩
   ·rw [if_neg c3] at H
    have c3b0 : decide (x4_1 ≤ 87) = false := decide_eq_false c3
    clear c3
    simp only [Option.some.injEq, Prod.mk.injEq] at H
    obtain ⟨rfl, rfl, rfl, rfl, rfl, rfl, rfl, rfl⟩ := H
    obtain ⟨z25_0, z25_1, z25_2, z25_3, z25_4, z25_5, z25_6, f25_0, f25_1, f25_2, f25_3, f25_4, f25_5, f25_6⟩ := cf7 BK282
    go_wp2
    refine bodyPost_ret (results_ct rfl _ _ gb282 50 #[.int .i64 0, .int .i64 0, .int .i64 0, .int .i64 0, .int .i64 0, .bool false, .bool false] (0, 0) _ rfl (by (with_reducible repeat (first | refine blk_drewN ?_ _ | refine blk_drew ?_ | refine blk_alloc ?_ _)); refine blk_put (cs := #[.int .i64 0, .int .i64 0, .int .i64 0, .int .i64 0, .int .i64 0, .bool false, .bool x283006_1]) ?_ 6 _ rfl; (with_reducible repeat (first | refine blk_drewN ?_ _ | refine blk_drew ?_ | refine blk_alloc ?_ _)); refine blk_put (cs := #[.int .i64 0, .int .i64 0, .int .i64 0, .int .i64 0, .int .i64 0, .bool x283005_1, .bool x283006_1]) ?_ 5 _ rfl; (with_reducible repeat (first | refine blk_drewN ?_ _ | refine blk_drew ?_ | refine blk_alloc ?_ _)); refine blk_put (cs := #[.int .i64 0, .int .i64 0, .int .i64 0, .int .i64 0, .int .i64 x283004_1, .bool x283005_1, .bool x283006_1]) ?_ 4 _ rfl; (with_reducible repeat (first | refine blk_drewN ?_ _ | refine blk_drew ?_ | refine blk_alloc ?_ _)); refine blk_put (cs := #[.int .i64 0, .int .i64 0, .int .i64 0, .int .i64 x283003_1, .int .i64 x283004_1, .bool x283005_1, .bool x283006_1]) ?_ 3 _ rfl; (with_reducible repeat (first | refine blk_drewN ?_ _ | refine blk_drew ?_ | refine blk_alloc ?_ _)); refine blk_put (cs := #[.int .i64 0, .int .i64 0, .int .i64 x283002_1, .int .i64 x283003_1, .int .i64 x283004_1, .bool x283005_1, .bool x283006_1]) ?_ 2 _ rfl; (with_reducible repeat (first | refine blk_drewN ?_ _ | refine blk_drew ?_ | refine blk_alloc ?_ _)); refine blk_put (cs := #[.int .i64 0, .int .i64 x283001_1, .int .i64 x283002_1, .int .i64 x283003_1, .int .i64 x283004_1, .bool x283005_1, .bool x283006_1]) ?_ 1 _ rfl; (with_reducible repeat (first | refine blk_drewN ?_ _ | refine blk_drew ?_ | refine blk_alloc ?_ _)); refine blk_put (cs := #[.int .i64 x283000_1, .int .i64 x283001_1, .int .i64 x283002_1, .int .i64 x283003_1, .int .i64 x283004_1, .bool x283005_1, .bool x283006_1]) ?_ 0 _ rfl; (with_reducible repeat (first | refine blk_drewN ?_ _ | refine blk_drew ?_ | refine blk_alloc ?_ _)); exact BK282.out) Tryz.underlying50 rfl (by kernel_rfl)) rfl ?_
    exact ⟨fe, bs HB GE282⟩
theorem postbagref02_Decode0.run (w : Int) (hw : 0 ≤ w ∧ w < 4294967296) : ∀ (n : Nat) (op : Int) (k : Nat), op + n = 88 → 1 ≤ op → n < k → postbagref02_Decode0.l0 k w op = some (decTup w (decFrom w n op))
 | 0, op, k, h, h1, hk => by
  obtain ⟨k, rfl⟩ : ∃ m, k = m + 1 := ⟨k - 1, by omega⟩
  simp only [postbagref02_Decode0.l0, decFrom]
  rw [if_neg (by omega)]; rfl
 | n + 1, op, k, h, h1, hk => by
  obtain ⟨k, rfl⟩ : ∃ m, k = m + 1 := ⟨k - 1, by omega⟩
  have ih := postbagref02_Decode0.run w hw n (op + 1) k (by omega) (by omega) (by omega)
  have ew : wrap64 (op + 1) = op + 1 := by unfold wrap64; omega
  simp only [postbagref02_Decode0.l0, decFrom]
  rw [if_pos (by omega)]
  simp only [postbagref02_as.f, if_pos hw, Option.bind_some, postbagref02_Encode.f, if_pos (decImm_I64 _ _), ew]
  cases hg : goodOf op (decRd op w) (decRs1 op w) (decRs2 op w) (decImm (formOf op) w) (decAq op w) (decRl op w)
  ·have hh : hit op w = false := by unfold hit; rw [hg]; rfl
   simp only [hh, Bool.false_eq_true, if_false, Option.bind_some, ih]
   rfl
  ·simp only [if_true, Option.bind_some]
   by_cases e : encOf op (decRd op w) (decRs1 op w) (decRs2 op w) (decImm (formOf op) w) (decAq op w) (decRl op w) = w
   ·have hh : hit op w = true := by unfold hit; rw [hg, e]; simp
    rw [if_pos e, if_pos hh]
    unfold decTup; rw [if_neg (by omega)]
   ·have hh : hit op w = false := by unfold hit; rw [hg, beq_eq_false_iff_ne.2 e]; rfl
    rw [if_neg e, ih, hh]; rfl
def postbagref02_Decode.f (a0 : Int) : Option (Int × Int × Int × Int × Int × Bool × Bool × Int) := if 0 ≤ a0 ∧ a0 < 4294967296 then some (decTup a0 (decOp a0)) else none
theorem postbagref02_Decode.spec (a0 r1 r2 r3 r4 r5 : Int) (r6 r7 : Bool) (r8 : Int) (h : postbagref02_Decode.f a0 = some (r1, r2, r3, r4, r5, r6, r7, r8)) : ∃ k, postbagref02_Decode0.f k a0 = some (r1, r2, r3, r4, r5, r6, r7, r8) := by
 unfold postbagref02_Decode.f at h
 split at h
 ·rename_i hc
  refine ⟨88, ?_⟩
  rw [← h]
  exact postbagref02_Decode0.run a0 hc 87 1 88 (by omega) (by omega) (by omega)
 ·simp at h
theorem postbagref02_Decode.calls (a0 : Int) (r1 : Int) (r2 : Int) (r3 : Int) (r4 : Int) (r5 : Int) (r6 : Bool) (r7 : Bool) (r8 : Int) (w : World) (h : postbagref02_Decode.f a0 = some (r1, r2, r3, r4, r5, r6, r7, r8)) :
  Calls Tryz.prog 32 #[.int .u32 a0] w fun e w' => e = .returned (.tuple #[.agg #[.int .i64 r1, .int .i64 r2, .int .i64 r3, .int .i64 r4, .int .i64 r5, .bool r6, .bool r7], .int .i64 r8]) ∧ Below w.heap.size w w' := by
 obtain ⟨k, hk⟩ := postbagref02_Decode.spec a0 r1 r2 r3 r4 r5 r6 r7 r8 h
 exact postbagref02_Decode0.calls k a0 r1 r2 r3 r4 r5 r6 r7 r8 w hk
-- NOT PRINTED: function 33 (postbagref06_reg)
def postbagref02_Atomic0.f (a0 : Int) : Option (Bool) := if a0 ≥ 66 then (some (decide (a0 ≤ 87))) else (some false)
set_option maxHeartbeats 8000000 in
set_option maxRecDepth 100000 in
theorem postbagref02_Atomic0.calls (a0 : Int) (r : Bool) (w : World) (h : postbagref02_Atomic0.f a0 = some r) :
  Calls Tryz.prog 62 #[.int .i64 a0] w fun e w' => e = .returned (.bool r) ∧ Drawn0 w w' := by
 have H := h
 clear h
 unfold postbagref02_Atomic0.f at H
 by_cases c2 : a0 ≥ 66
 ·rw [if_pos c2] at H
  have c2b0 : decide (66 ≤ a0) = true := decide_eq_true c2
  clear c2
  obtain rfl := Option.some.inj H
  go_enter Tryz.func62, Tryz.ntmps62
  go_wp2
  go_ret
  exact fd
 ·rw [if_neg c2] at H
  have c2b0 : decide (66 ≤ a0) = false := decide_eq_false c2
  clear c2
  obtain rfl := Option.some.inj H
  go_enter Tryz.func62, Tryz.ntmps62
  go_wp2
  go_ret
  exact fd
def postbagref02_Atomic.f (a0 : Int) : Option (Bool) := some (decide (66 ≤ a0 ∧ a0 ≤ 87))
theorem postbagref02_Atomic.spec (a0 : Int) (r : Bool) (h : postbagref02_Atomic.f a0 = some r) : postbagref02_Atomic0.f a0 = some r := by
 rw [← h]; unfold postbagref02_Atomic0.f postbagref02_Atomic.f
 by_cases h1 : 66 ≤ a0 <;> simp [h1]
theorem postbagref02_Atomic.calls (a0 : Int) (r : Bool) (w : World) (h : postbagref02_Atomic.f a0 = some r) :
  Calls Tryz.prog 62 #[.int .i64 a0] w fun e w' => e = .returned (.bool r) ∧ Drawn0 w w' := by
 have hk := postbagref02_Atomic.spec a0 r h
 exact postbagref02_Atomic0.calls a0 r w hk
mutual
def postbagref02_Size0.j0 : Nat → Int → Int → Bool → Option (Int)
 | 0, _, _, _ => none
 | k + 1, x0, x3, x4 => if x4 = true then (some 1) else (if x3 = 12 then (postbagref02_Size0.j1 k x0 x3 (x3 == 12)) else (if x3 = 16 then (postbagref02_Size0.j1 k x0 x3 (x3 == 16)) else (postbagref02_Size0.j1 k x0 x3 (x3 == 19))))
def postbagref02_Size0.j1 : Nat → Int → Int → Bool → Option (Int)
 | 0, _, _, _ => none
 | k + 1, x0, x3, x8 => if x8 = true then (some 2) else (if x3 = 13 then (postbagref02_Size0.j2 k x0 x3 (x3 == 13)) else (if x3 = 17 then (postbagref02_Size0.j2 k x0 x3 (x3 == 17)) else (postbagref02_Size0.j2 k x0 x3 (x3 == 20))))
def postbagref02_Size0.j2 : Nat → Int → Int → Bool → Option (Int)
 | 0, _, _, _ => none
 | k + 1, x0, x3, x12 => if x12 = true then (some 4) else (if x3 = 14 then (some 8) else (if x3 = 21 then (some 8) else ((postbagref02_Atomic.f x0).bind fun t293 => (if t293 = true then (postbagref02_Size0.j3 k x0 (decide (x0 < 77))) else (postbagref02_Size0.j3 k x0 false)))))
def postbagref02_Size0.j3 : Nat → Int → Bool → Option (Int)
 | 0, _, _ => none
 | k + 1, x0, x24 => if x24 = true then (some 4) else ((postbagref02_Atomic.f x0).bind fun t294 => (if t294 = true then (some 8) else (some 0)))
end
def postbagref02_Size0.f (k : Nat) (a0 : Int) : Option (Int) := if a0 = 11 then (postbagref02_Size0.j0 k a0 a0 (a0 == 11)) else (if a0 = 15 then (postbagref02_Size0.j0 k a0 a0 (a0 == 15)) else (postbagref02_Size0.j0 k a0 a0 (a0 == 18)))
theorem postbagref02_Size0.mono_l : ∀ k, (∀ y0 y1 y2, LeO (postbagref02_Size0.j0 k y0 y1 y2) (postbagref02_Size0.j0 (k + 1) y0 y1 y2)) ∧ (∀ y0 y1 y2, LeO (postbagref02_Size0.j1 k y0 y1 y2) (postbagref02_Size0.j1 (k + 1) y0 y1 y2)) ∧ (∀ y0 y1 y2, LeO (postbagref02_Size0.j2 k y0 y1 y2) (postbagref02_Size0.j2 (k + 1) y0 y1 y2)) ∧ (∀ y0 y1, LeO (postbagref02_Size0.j3 k y0 y1) (postbagref02_Size0.j3 (k + 1) y0 y1))
 | 0 => ⟨fun _ _ _ r h => by simp [postbagref02_Size0.j0] at h, fun _ _ _ r h => by simp [postbagref02_Size0.j1] at h, fun _ _ _ r h => by simp [postbagref02_Size0.j2] at h, fun _ _ r h => by simp [postbagref02_Size0.j3] at h⟩
 | k + 1 => by
  obtain ⟨ih0, ih1, ih2, ih3⟩ := postbagref02_Size0.mono_l k
  refine ⟨?_, ?_, ?_, ?_⟩
  ·intro y0 y1 y2
   unfold postbagref02_Size0.j0
   exact leo
  ·intro y0 y1 y2
   unfold postbagref02_Size0.j1
   exact leo
  ·intro y0 y1 y2
   unfold postbagref02_Size0.j2
   exact leo
  ·intro y0 y1
   unfold postbagref02_Size0.j3
   exact leo
theorem postbagref02_Size0.mono : ∀ a0 k, LeO (postbagref02_Size0.f k a0) (postbagref02_Size0.f (k + 1) a0) := by
 intro a0 k
 obtain ⟨ih0, ih1, ih2, ih3⟩ := postbagref02_Size0.mono_l k
 unfold postbagref02_Size0.f
 exact leo
set_option maxHeartbeats 8000000 in
set_option maxRecDepth 100000 in
theorem postbagref02_Size0.calls (k : Nat) (a0 : Int) (r : Int) (w : World) (h : postbagref02_Size0.f k a0 = some r) :
  Calls Tryz.prog 34 #[.int .i64 a0] w fun e w' => e = .returned (.int .i64 r) ∧ Drawn0 w w' := by
 have H := h
 clear h
 unfold postbagref02_Size0.f at H
 have HC2 := am H
 clear H
 go_enter Tryz.func34, Tryz.ntmps34
 go_upto_if 4 with (fail)
 go_cut [4] (fun v4 wc => ∃ (kq : Nat) (x4_1 : Bool), v4 = .bool x4_1 ∧ Aside0 (postbagref02_Size0.j0 kq a0 a0 x4_1 = some r) ∧ Aside0 (kq ≤ k) ∧ Drawn0 w wc)
 case first =>
  have H := HC2.out
  clear HC2
  by_cases c3 : a0 = 11
  ·rw [if_pos c3] at H
   obtain ⟨c3b0, c3b1⟩ := bqt c3
   clear c3
   (first | rw [c3b0] | (simp only [i64_w, i32_w]; rw [c3b0]) | skip)
   have H' := am H
   clear H
   go_wp2
   go_meet
   case rel => exact ⟨_, ((a0 == 11)), fr, H', ⟨om⟩, dd⟩
  ·rw [if_neg c3] at H
   obtain ⟨c3b0, c3b1⟩ := bqf c3
   (first | rw [c3b0] | (simp only [i64_w, i32_w]; rw [c3b0]) | skip)
   by_cases c4 : a0 = 15
   ·rw [if_pos c4] at H
    obtain ⟨c4b0, c4b1⟩ := bqt c4
    clear c4
    have H' := am H
    clear H
    go_wp2
    go_meet
    case rel => exact ⟨_, ((a0 == 15)), fr, H', ⟨om⟩, dd⟩
   ·rw [if_neg c4] at H
    obtain ⟨c4b0, c4b1⟩ := bqf c4
    have H' := am H
    clear H
    go_wp2
    go_meet
    case rel => exact ⟨_, ((a0 == 18)), fr, H', ⟨om⟩, dd⟩
 case rest =>
  clear HC2
  try clear p2
  try clear c3
  try clear c3b0
  try clear c3b1
  try clear c4
  try clear c4b0
  try clear c4b1
  obtain ⟨kq, x4_1, rfl, HA, HJ1, ⟨mc1, rfl⟩⟩ := hcut
  cases kq with
  | zero => exact absurd HA.out (by simp [postbagref02_Size0.j0])
  | succ kj1 =>
   have H := HA.out
   clear HA
   simp only [postbagref02_Size0.j0] at H
   by_cases c5 : x4_1 = true
   ·subst c5
    rw [if_pos rfl] at H
    obtain rfl := Option.some.inj H
    go_wp2
    go_ret
    exact fd
   ·replace c5 := Bool.eq_false_iff.mpr c5
    subst c5
    rw [if_neg ff] at H
    have HC6 := am H
    clear H
    go_upto_if 8 with (fail)
    go_cut [8] (fun v8 wc => ∃ (kq : Nat) (x8_5 : Bool), v8 = .bool x8_5 ∧ Aside0 (postbagref02_Size0.j1 kq a0 a0 x8_5 = some r) ∧ Aside0 (kq ≤ kj1) ∧ Drawn0 w wc)
    case first =>
     have H := HC6.out
     clear HC6
     by_cases c7 : a0 = 12
     ·rw [if_pos c7] at H
      obtain ⟨c7b0, c7b1⟩ := bqt c7
      clear c7
      (first | rw [c7b0] | (simp only [i64_w, i32_w]; rw [c7b0]) | skip)
      have H' := am H
      clear H
      go_wp2
      go_meet
      case rel => exact ⟨_, ((a0 == 12)), fr, H', ⟨by have := HJ1.out; first | omega | exact Nat.le_refl _⟩, dd⟩
     ·rw [if_neg c7] at H
      obtain ⟨c7b0, c7b1⟩ := bqf c7
      (first | rw [c7b0] | (simp only [i64_w, i32_w]; rw [c7b0]) | skip)
      by_cases c8 : a0 = 16
      ·rw [if_pos c8] at H
       obtain ⟨c8b0, c8b1⟩ := bqt c8
       clear c8
       have H' := am H
       clear H
       go_wp2
       go_meet
       case rel => exact ⟨_, ((a0 == 16)), fr, H', ⟨by have := HJ1.out; first | omega | exact Nat.le_refl _⟩, dd⟩
      ·rw [if_neg c8] at H
       obtain ⟨c8b0, c8b1⟩ := bqf c8
       have H' := am H
       clear H
       go_wp2
       go_meet
       case rel => exact ⟨_, ((a0 == 19)), fr, H', ⟨by have := HJ1.out; first | omega | exact Nat.le_refl _⟩, dd⟩
    case rest =>
     clear HC6
     try clear c1
     try clear p2
     try clear c3
     try clear c3b0
     try clear c3b1
     try clear c4
     try clear c4b0
     try clear c4b1
     try clear c5
     try clear c7
     try clear c7b0
     try clear c7b1
     try clear c8
     try clear c8b0
     try clear c8b1
     try clear p2
     obtain ⟨kq, x8_5, rfl, HA, HJ5, ⟨mc5, rfl⟩⟩ := hcut
     cases kq with
     | zero => exact absurd HA.out (by simp [postbagref02_Size0.j1])
     | succ kj5 =>
      have H := HA.out
      clear HA
      simp only [postbagref02_Size0.j1] at H
      by_cases c9 : x8_5 = true
      ·subst c9
       rw [if_pos rfl] at H
       obtain rfl := Option.some.inj H
       go_wp2
       go_ret
       exact fd
      ·replace c9 := Bool.eq_false_iff.mpr c9
       subst c9
       rw [if_neg ff] at H
       have HC10 := am H
       clear H
       go_upto_if 12 with (fail)
       go_cut [12] (fun v12 wc => ∃ (kq : Nat) (x12_9 : Bool), v12 = .bool x12_9 ∧ Aside0 (postbagref02_Size0.j2 kq a0 a0 x12_9 = some r) ∧ Aside0 (kq ≤ kj5) ∧ Drawn0 w wc)
       case first =>
        have H := HC10.out
        clear HC10
        by_cases c11 : a0 = 13
        ·rw [if_pos c11] at H
         obtain ⟨c11b0, c11b1⟩ := bqt c11
         clear c11
         (first | rw [c11b0] | (simp only [i64_w, i32_w]; rw [c11b0]) | skip)
         have H' := am H
         clear H
         go_wp2
         go_meet
         case rel => exact ⟨_, ((a0 == 13)), fr, H', ⟨by have := HJ1.out; have := HJ5.out; first | omega | exact Nat.le_refl _⟩, dd⟩
        ·rw [if_neg c11] at H
         obtain ⟨c11b0, c11b1⟩ := bqf c11
         (first | rw [c11b0] | (simp only [i64_w, i32_w]; rw [c11b0]) | skip)
         by_cases c12 : a0 = 17
         ·rw [if_pos c12] at H
          obtain ⟨c12b0, c12b1⟩ := bqt c12
          clear c12
          have H' := am H
          clear H
          go_wp2
          go_meet
          case rel => exact ⟨_, ((a0 == 17)), fr, H', ⟨by have := HJ1.out; have := HJ5.out; first | omega | exact Nat.le_refl _⟩, dd⟩
         ·rw [if_neg c12] at H
          obtain ⟨c12b0, c12b1⟩ := bqf c12
          have H' := am H
          clear H
          go_wp2
          go_meet
          case rel => exact ⟨_, ((a0 == 20)), fr, H', ⟨by have := HJ1.out; have := HJ5.out; first | omega | exact Nat.le_refl _⟩, dd⟩
       case rest =>
        clear HC10
        try clear c1
        try clear p2
        try clear c3
        try clear c3b0
        try clear c3b1
        try clear c4
        try clear c4b0
        try clear c4b1
        try clear c5
        try clear c7
        try clear c7b0
        try clear c7b1
        try clear c8
        try clear c8b0
        try clear c8b1
        try clear c9
        try clear c11
        try clear c11b0
        try clear c11b1
        try clear c12
        try clear c12b0
        try clear c12b1
        try clear p2
        obtain ⟨kq, x12_9, rfl, HA, HJ9, ⟨mc9, rfl⟩⟩ := hcut
        cases kq with
        | zero => exact absurd HA.out (by simp [postbagref02_Size0.j2])
        | succ kj9 =>
         have H := HA.out
         clear HA
         simp only [postbagref02_Size0.j2] at H
         by_cases c13 : x12_9 = true
         ·subst c13
          rw [if_pos rfl] at H
          obtain rfl := Option.some.inj H
          go_wp2
          go_ret
          exact fd
         ·replace c13 := Bool.eq_false_iff.mpr c13
          subst c13
          rw [if_neg ff] at H
          by_cases c14 : a0 = 14
          ·rw [if_pos c14] at H
           obtain ⟨c14b0, c14b1⟩ := bqt c14
           clear c14
           obtain rfl := Option.some.inj H
           go_wp2
           go_ret
           exact fd
          ·rw [if_neg c14] at H
           obtain ⟨c14b0, c14b1⟩ := bqf c14
           by_cases c15 : a0 = 21
           ·rw [if_pos c15] at H
            obtain ⟨c15b0, c15b1⟩ := bqt c15
            clear c15
            obtain rfl := Option.some.inj H
            go_wp2
            go_ret
            exact fd
           ·rw [if_neg c15] at H
            obtain ⟨c15b0, c15b1⟩ := bqf c15
            have HC16 := am H
            clear H
            go_upto_region 17 with (fail)
            go_cut [24] (fun v24 wc => ∃ (kq : Nat) (x24_15 : Bool), v24 = .bool x24_15 ∧ Aside0 (postbagref02_Size0.j3 kq a0 x24_15 = some r) ∧ Aside0 (kq ≤ kj9) ∧ Drawn0 w wc)
            case first =>
             have H := HC16.out
             clear HC16
             obtain ⟨t293, A17, H⟩ := bam H
             try dsimp only at H
             by_cases c18 : t293 = true
             ·subst c18
              rw [if_pos rfl] at H
              have H' := am H
              clear H
              go_wp2_with (first | ((with_reducible refine gate_callee (f := 62) rfl ?_); refine gl (some 20) rfl rfl Tryz.func62 rfl #[.int .i64 a0] rfl ?_; (with_reducible refine (postbagref02_Atomic.calls a0 true _ A17.out).mono ?_); rintro e w' ⟨rfl, ⟨nd, rfl⟩⟩; refine ⟨_, rfl, ?_⟩))
              go_meet
              case rel => exact ⟨_, (decide (a0 < 77)), fr, H', ⟨by have := HJ1.out; have := HJ5.out; have := HJ9.out; first | omega | exact Nat.le_refl _⟩, dd⟩
             ·replace c18 := Bool.eq_false_iff.mpr c18
              subst c18
              rw [if_neg ff] at H
              have H' := am H
              clear H
              go_wp2_with (first | ((with_reducible refine gate_callee (f := 62) rfl ?_); refine gl (some 20) rfl rfl Tryz.func62 rfl #[.int .i64 a0] rfl ?_; (with_reducible refine (postbagref02_Atomic.calls a0 false _ A17.out).mono ?_); rintro e w' ⟨rfl, ⟨nd, rfl⟩⟩; refine ⟨_, rfl, ?_⟩))
              go_meet
              case rel => exact ⟨_, (false), fr, H', ⟨by have := HJ1.out; have := HJ5.out; have := HJ9.out; first | omega | exact Nat.le_refl _⟩, dd⟩
            case rest =>
             clear HC16
             try clear c1
             try clear p2
             try clear c3
             try clear c3b0
             try clear c3b1
             try clear c4
             try clear c4b0
             try clear c4b1
             try clear c5
             try clear c6
             try clear c7
             try clear c7b0
             try clear c7b1
             try clear c8
             try clear c8b0
             try clear c8b1
             try clear c9
             try clear c11
             try clear c11b0
             try clear c11b1
             try clear c12
             try clear c12b0
             try clear c12b1
             try clear c13
             try clear c14
             try clear c14b0
             try clear c14b1
             try clear c15
             try clear c15b0
             try clear c15b1
             try clear c18
             try clear p2
             obtain ⟨kq, x24_15, rfl, HA, HJ15, ⟨mc15, rfl⟩⟩ := hcut
             cases kq with
             | zero => exact absurd HA.out (by simp [postbagref02_Size0.j3])
             | succ kj15 =>
              have H := HA.out
              clear HA
              simp only [postbagref02_Size0.j3] at H
              by_cases c19 : x24_15 = true
              ·subst c19
               rw [if_pos rfl] at H
               obtain rfl := Option.some.inj H
               go_wp2
               go_ret
               exact fd
              ·replace c19 := Bool.eq_false_iff.mpr c19
               subst c19
               rw [if_neg ff] at H
               obtain ⟨t294, A20, H⟩ := bam H
               try dsimp only at H
               by_cases c21 : t294 = true
               ·subst c21
                rw [if_pos rfl] at H
                obtain rfl := Option.some.inj H
                go_wp2_with (first | ((with_reducible refine gate_callee (f := 62) rfl ?_); refine gl (some 26) rfl rfl Tryz.func62 rfl #[.int .i64 a0] rfl ?_; (with_reducible refine (postbagref02_Atomic.calls a0 true _ A20.out).mono ?_); rintro e w' ⟨rfl, ⟨nd, rfl⟩⟩; refine ⟨_, rfl, ?_⟩))
                go_ret
                exact fd
               ·replace c21 := Bool.eq_false_iff.mpr c21
                subst c21
                rw [if_neg ff] at H
                obtain rfl := Option.some.inj H
                go_wp2_with (first | ((with_reducible refine gate_callee (f := 62) rfl ?_); refine gl (some 26) rfl rfl Tryz.func62 rfl #[.int .i64 a0] rfl ?_; (with_reducible refine (postbagref02_Atomic.calls a0 false _ A20.out).mono ?_); rintro e w' ⟨rfl, ⟨nd, rfl⟩⟩; refine ⟨_, rfl, ?_⟩))
                go_ret
                exact fd
def postbagref02_Size.f (a0 : Int) : Option (Int) := some (if a0 = 11 ∨ a0 = 15 ∨ a0 = 18 then 1 else if a0 = 12 ∨ a0 = 16 ∨ a0 = 19 then 2 else if a0 = 13 ∨ a0 = 17 ∨ a0 = 20 then 4 else if a0 = 14 ∨ a0 = 21 then 8 else if 66 ≤ a0 ∧ a0 < 77 then 4 else if 77 ≤ a0 ∧ a0 ≤ 87 then 8 else 0)
theorem postbagref02_Size.spec (a0 r : Int) (h : postbagref02_Size.f a0 = some r) : ∃ k, postbagref02_Size0.f k a0 = some r := by
 rw [← h]; refine ⟨5, ?_⟩; unfold postbagref02_Size.f
 by_cases hr : 11 ≤ a0 ∧ a0 ≤ 21
 ·have hc : a0 = 11 ∨ a0 = 12 ∨ a0 = 13 ∨ a0 = 14 ∨ a0 = 15 ∨ a0 = 16 ∨ a0 = 17 ∨ a0 = 18 ∨ a0 = 19 ∨ a0 = 20 ∨ a0 = 21 := by omega
  rcases hc with rfl | rfl | rfl | rfl | rfl | rfl | rfl | rfl | rfl | rfl | rfl <;> decide +kernel
 ·have hn : ∀ x : Int, 11 ≤ x → x ≤ 21 → a0 ≠ x := by intro x h1 h2 e; omega
  have g : a0 ≠ 11 ∧ a0 ≠ 12 ∧ a0 ≠ 13 ∧ a0 ≠ 14 ∧ a0 ≠ 15 ∧ a0 ≠ 16 ∧ a0 ≠ 17 ∧ a0 ≠ 18 ∧ a0 ≠ 19 ∧ a0 ≠ 20 ∧ a0 ≠ 21 := by omega
  obtain ⟨g1, g2, g3, g4, g5, g6, g7, g8, g9, g10, g11⟩ := g
  by_cases h2 : 66 ≤ a0
  ·by_cases h3 : a0 < 77
   ·simp [postbagref02_Size0.f, postbagref02_Size0.j0, postbagref02_Size0.j1, postbagref02_Size0.j2, postbagref02_Size0.j3, postbagref02_Atomic.f, g1, g2, g3, g4, g5, g6, g7, g8, g9, g10, g11, h2, h3, show a0 ≤ 87 by omega]
   ·by_cases h4 : a0 ≤ 87
    ·simp [postbagref02_Size0.f, postbagref02_Size0.j0, postbagref02_Size0.j1, postbagref02_Size0.j2, postbagref02_Size0.j3, postbagref02_Atomic.f, g1, g2, g3, g4, g5, g6, g7, g8, g9, g10, g11, h2, h3, h4, show 77 ≤ a0 by omega]
    ·simp [postbagref02_Size0.f, postbagref02_Size0.j0, postbagref02_Size0.j1, postbagref02_Size0.j2, postbagref02_Size0.j3, postbagref02_Atomic.f, g1, g2, g3, g4, g5, g6, g7, g8, g9, g10, g11, h2, h3, h4]
  ·simp [postbagref02_Size0.f, postbagref02_Size0.j0, postbagref02_Size0.j1, postbagref02_Size0.j2, postbagref02_Size0.j3, postbagref02_Atomic.f, g1, g2, g3, g4, g5, g6, g7, g8, g9, g10, g11, h2, show ¬ (77 ≤ a0) by omega]
theorem postbagref02_Size.calls (a0 : Int) (r : Int) (w : World) (h : postbagref02_Size.f a0 = some r) :
  Calls Tryz.prog 34 #[.int .i64 a0] w fun e w' => e = .returned (.int .i64 r) ∧ Drawn0 w w' := by
 obtain ⟨k, hk⟩ := postbagref02_Size.spec a0 r h
 exact postbagref02_Size0.calls k a0 r w hk
end Go.Proofs.YtcjfafhbohkhlaaGreat.PAll
