/- DERIVED. Printed contracts of functions. -/
import Derived.Test.YtcjfafhbohkhlaaGreatPAllx0
import Derived.Test.YtcjfafhbohkhlaaGreatPAllx11
import Derived.Test.YtcjfafhbohkhlaaGreatPAllx16
import Derived.Test.YtcjfafhbohkhlaaGreatPAllx14
namespace Go.Proofs.YtcjfafhbohkhlaaGreat.PAll
open Go.RowKit Go.Proofs.YtcjfafhbohkhlaaGreatW.PrintWords Go.Proofs.YtcjfafhbohkhlaaGreatW.PrintLast Go.Proofs.YtcjfafhbohkhlaaGreatW.PrintMore Go.Proofs.YtcjfafhbohkhlaaGreat.M
attribute [local go_sem] max2_int min2_int max_two min_two max_three min_three max_four min_four
set_option linter.unusedVariables false
set_option linter.unusedSimpArgs false
mutual
def postbagref04_narrow.j0 : Nat → Int → Int → Int → Int → Bool → Option (Int × Bool)
 | 0, _, _, _, _, _ => none
 | k + 1, x1, x2, x8, x12, x13 => if x13 = true then ((postbagref04_word.f (IntKind.u64.wrap (x1 + x2))).bind fun t346 => (some (t346, true))) else (if x12 = 46 then ((postbagref04_word.f (IntKind.u64.wrap (x1 - x2))).bind fun t347 => (some (t347, true))) else (if x12 = 47 then (postbagref04_narrow.j1 k x1 x2 x8 x12 (x12 == 47)) else (postbagref04_narrow.j1 k x1 x2 x8 x12 (x12 == 42))))
def postbagref04_narrow.j1 : Nat → Int → Int → Int → Int → Bool → Option (Int × Bool)
 | 0, _, _, _, _, _ => none
 | k + 1, x1, x2, x8, x12, x26 => if x26 = true then ((postbagref04_left.f k x1 x8).bind fun t348 => ((postbagref04_word.f t348).bind fun t349 => (some (t349, true)))) else (if x12 = 48 then (postbagref04_narrow.j2 k x1 x2 x8 x12 (x12 == 48)) else (postbagref04_narrow.j2 k x1 x2 x8 x12 (x12 == 43)))
def postbagref04_narrow.j2 : Nat → Int → Int → Int → Int → Bool → Option (Int × Bool)
 | 0, _, _, _, _, _ => none
 | k + 1, x1, x2, x8, x12, x33 => if x33 = true then ((postbagref04_low.f x1).bind fun t350 => ((postbagref04_right.f k t350 x8 0).bind fun t351 => ((postbagref04_word.f t351).bind fun t352 => (some (t352, true))))) else (if x12 = 49 then (postbagref04_narrow.j3 k x1 x2 x8 x12 (x12 == 49)) else (postbagref04_narrow.j3 k x1 x2 x8 x12 (x12 == 44)))
def postbagref04_narrow.j3 : Nat → Int → Int → Int → Int → Bool → Option (Int × Bool)
 | 0, _, _, _, _, _ => none
 | k + 1, x1, x2, x8, x12, x41 => if x41 = true then ((postbagref04_word.f x1).bind fun t353 => ((postbagref01_Bit.f x1 31).bind fun t354 => ((postbagref04_right.f k t353 x8 t354).bind fun t355 => ((postbagref04_word.f t355).bind fun t356 => (some (t356, true)))))) else (if x12 = 61 then ((postbagref04_word.f (IntKind.u64.wrap (x1 * x2))).bind fun t357 => (some (t357, true))) else (if x12 = 62 then ((postbagref04_word.f x1).bind fun t358 => ((postbagref04_word.f x2).bind fun t359 => ((postbagref01_Quo.f t358 t359 true).bind fun t360 => ((postbagref04_word.f t360).bind fun t361 => (some (t361, true)))))) else (if x12 = 63 then ((postbagref04_low.f x1).bind fun t362 => ((postbagref04_low.f x2).bind fun t363 => ((postbagref01_Quo.f t362 t363 false).bind fun t364 => ((postbagref04_word.f t364).bind fun t365 => (some (t365, true)))))) else (if x12 = 64 then ((postbagref04_word.f x1).bind fun t366 => ((postbagref04_word.f x2).bind fun t367 => ((postbagref01_Rem.f t366 t367 true).bind fun t368 => ((postbagref04_word.f t368).bind fun t369 => (some (t369, true)))))) else (if x12 = 65 then ((postbagref04_low.f x1).bind fun t370 => ((postbagref04_low.f x2).bind fun t371 => ((postbagref01_Rem.f t370 t371 false).bind fun t372 => ((postbagref04_word.f t372).bind fun t373 => (some (t373, true)))))) else (some (0, false)))))))
end
def postbagref04_narrow.f (k : Nat) (a0 : Int) (a1 : Int) (a2 : Int) : Option (Int × Bool) := (postbagref01_Field.f a2 0 5).bind fun t345 => (if a0 = 45 then (postbagref04_narrow.j0 k a1 a2 (wrap64 (t345)) a0 (a0 == 45)) else (postbagref04_narrow.j0 k a1 a2 (wrap64 (t345)) a0 (a0 == 41)))
theorem postbagref04_narrow.mono_l : ∀ k, (∀ y0 y1 y2 y3 y4, LeO (postbagref04_narrow.j0 k y0 y1 y2 y3 y4) (postbagref04_narrow.j0 (k + 1) y0 y1 y2 y3 y4)) ∧ (∀ y0 y1 y2 y3 y4, LeO (postbagref04_narrow.j1 k y0 y1 y2 y3 y4) (postbagref04_narrow.j1 (k + 1) y0 y1 y2 y3 y4)) ∧ (∀ y0 y1 y2 y3 y4, LeO (postbagref04_narrow.j2 k y0 y1 y2 y3 y4) (postbagref04_narrow.j2 (k + 1) y0 y1 y2 y3 y4)) ∧ (∀ y0 y1 y2 y3 y4, LeO (postbagref04_narrow.j3 k y0 y1 y2 y3 y4) (postbagref04_narrow.j3 (k + 1) y0 y1 y2 y3 y4))
 | 0 => ⟨fun _ _ _ _ _ r h => by simp [postbagref04_narrow.j0] at h, fun _ _ _ _ _ r h => by simp [postbagref04_narrow.j1] at h, fun _ _ _ _ _ r h => by simp [postbagref04_narrow.j2] at h, fun _ _ _ _ _ r h => by simp [postbagref04_narrow.j3] at h⟩
 | k + 1 => by
  obtain ⟨ih0, ih1, ih2, ih3⟩ := postbagref04_narrow.mono_l k
  refine ⟨?_, ?_, ?_, ?_⟩
  ·intro y0 y1 y2 y3 y4
   unfold postbagref04_narrow.j0
   repeat' first
   | (with_reducible exact ih0 _ _ _ _ _)
   | (with_reducible exact ih1 _ _ _ _ _)
   | (with_reducible exact ih2 _ _ _ _ _)
   | (with_reducible exact ih3 _ _ _ _ _)
   | (with_reducible exact postbagref04_left.mono _ _ _)
   | (with_reducible exact postbagref04_right.mono _ _ _ _)
   | (with_reducible exact LeO.refl _)
   | (with_reducible exact LeO.none _)
   | (with_reducible refine LeO.ite ?_ ?_)
   | (with_reducible refine LeO.bind ?_ (fun _ => ?_))
   | exact ih0 _ _ _ _ _
   | exact ih1 _ _ _ _ _
   | exact ih2 _ _ _ _ _
   | exact ih3 _ _ _ _ _
   | exact postbagref04_left.mono _ _ _
   | exact postbagref04_right.mono _ _ _ _
   | exact LeO.none _
   | refine LeO.ite ?_ ?_
   | refine LeO.bind ?_ (fun _ => ?_)
  ·intro y0 y1 y2 y3 y4
   unfold postbagref04_narrow.j1
   repeat' first
   | (with_reducible exact ih0 _ _ _ _ _)
   | (with_reducible exact ih1 _ _ _ _ _)
   | (with_reducible exact ih2 _ _ _ _ _)
   | (with_reducible exact ih3 _ _ _ _ _)
   | (with_reducible exact postbagref04_left.mono _ _ _)
   | (with_reducible exact postbagref04_right.mono _ _ _ _)
   | (with_reducible exact LeO.refl _)
   | (with_reducible exact LeO.none _)
   | (with_reducible refine LeO.ite ?_ ?_)
   | (with_reducible refine LeO.bind ?_ (fun _ => ?_))
   | exact ih0 _ _ _ _ _
   | exact ih1 _ _ _ _ _
   | exact ih2 _ _ _ _ _
   | exact ih3 _ _ _ _ _
   | exact postbagref04_left.mono _ _ _
   | exact postbagref04_right.mono _ _ _ _
   | exact LeO.none _
   | refine LeO.ite ?_ ?_
   | refine LeO.bind ?_ (fun _ => ?_)
  ·intro y0 y1 y2 y3 y4
   unfold postbagref04_narrow.j2
   repeat' first
   | (with_reducible exact ih0 _ _ _ _ _)
   | (with_reducible exact ih1 _ _ _ _ _)
   | (with_reducible exact ih2 _ _ _ _ _)
   | (with_reducible exact ih3 _ _ _ _ _)
   | (with_reducible exact postbagref04_left.mono _ _ _)
   | (with_reducible exact postbagref04_right.mono _ _ _ _)
   | (with_reducible exact LeO.refl _)
   | (with_reducible exact LeO.none _)
   | (with_reducible refine LeO.ite ?_ ?_)
   | (with_reducible refine LeO.bind ?_ (fun _ => ?_))
   | exact ih0 _ _ _ _ _
   | exact ih1 _ _ _ _ _
   | exact ih2 _ _ _ _ _
   | exact ih3 _ _ _ _ _
   | exact postbagref04_left.mono _ _ _
   | exact postbagref04_right.mono _ _ _ _
   | exact LeO.none _
   | refine LeO.ite ?_ ?_
   | refine LeO.bind ?_ (fun _ => ?_)
  ·intro y0 y1 y2 y3 y4
   unfold postbagref04_narrow.j3
   repeat' first
   | (with_reducible exact ih0 _ _ _ _ _)
   | (with_reducible exact ih1 _ _ _ _ _)
   | (with_reducible exact ih2 _ _ _ _ _)
   | (with_reducible exact ih3 _ _ _ _ _)
   | (with_reducible exact postbagref04_left.mono _ _ _)
   | (with_reducible exact postbagref04_right.mono _ _ _ _)
   | (with_reducible exact LeO.refl _)
   | (with_reducible exact LeO.none _)
   | (with_reducible refine LeO.ite ?_ ?_)
   | (with_reducible refine LeO.bind ?_ (fun _ => ?_))
   | exact ih0 _ _ _ _ _
   | exact ih1 _ _ _ _ _
   | exact ih2 _ _ _ _ _
   | exact ih3 _ _ _ _ _
   | exact postbagref04_left.mono _ _ _
   | exact postbagref04_right.mono _ _ _ _
   | exact LeO.none _
   | refine LeO.ite ?_ ?_
   | refine LeO.bind ?_ (fun _ => ?_)
theorem postbagref04_narrow.mono : ∀ a0 a1 a2 k, LeO (postbagref04_narrow.f k a0 a1 a2) (postbagref04_narrow.f (k + 1) a0 a1 a2) := by
 intro a0 a1 a2 k
 obtain ⟨ih0, ih1, ih2, ih3⟩ := postbagref04_narrow.mono_l k
 unfold postbagref04_narrow.f
 repeat' first
   | (with_reducible exact ih0 _ _ _ _ _)
   | (with_reducible exact ih1 _ _ _ _ _)
   | (with_reducible exact ih2 _ _ _ _ _)
   | (with_reducible exact ih3 _ _ _ _ _)
   | (with_reducible exact postbagref04_left.mono _ _ _)
   | (with_reducible exact postbagref04_right.mono _ _ _ _)
   | (with_reducible exact LeO.refl _)
   | (with_reducible exact LeO.none _)
   | (with_reducible refine LeO.ite ?_ ?_)
   | (with_reducible refine LeO.bind ?_ (fun _ => ?_))
   | exact ih0 _ _ _ _ _
   | exact ih1 _ _ _ _ _
   | exact ih2 _ _ _ _ _
   | exact ih3 _ _ _ _ _
   | exact postbagref04_left.mono _ _ _
   | exact postbagref04_right.mono _ _ _ _
   | exact LeO.none _
   | refine LeO.ite ?_ ?_
   | refine LeO.bind ?_ (fun _ => ?_)
set_option maxHeartbeats 8000000 in
set_option maxRecDepth 100000 in
theorem postbagref04_narrow.calls (k : Nat) (a0 : Int) (a1 : Int) (a2 : Int) (r1 : Int) (r2 : Bool) (w : World) (h : postbagref04_narrow.f k a0 a1 a2 = some (r1, r2)) :
  Calls Tryz.prog 71 #[.int .i64 a0, .int .u64 a1, .int .u64 a2] w fun e w' => e = .returned (.tuple #[.int .u64 r1, .bool r2]) ∧ Drawn0 w w' := by
 have H := h
 clear h
 unfold postbagref04_narrow.f at H
 obtain ⟨t345, A4, H⟩ := bam H
 try dsimp only at H
 have HC5 := am H
 clear H
 go_enter Tryz.func71, Tryz.ntmps71
 go_upto_if 13 with (first | ((with_reducible refine gate_callee (f := 98) rfl ?_); refine gl (some 10) rfl rfl Tryz.func98 rfl #[.int .u64 a2, .int .i64 0, .int .i64 5] rfl ?_; (with_reducible refine (postbagref01_Field.calls a2 0 5 t345 _ A4.out).mono ?_); rintro e w' ⟨rfl, ⟨nd, rfl⟩⟩; refine ⟨_, rfl, ?_⟩))
 (try simp only [Act.put, List.setIfInBounds_toArray, List.set_cons_zero, List.set_cons_succ])
 go_cut [13] (fun v13 wc => ∃ (kq : Nat) (x13_4 : Bool), v13 = .bool x13_4 ∧ Aside0 (postbagref04_narrow.j0 kq a1 a2 (wrap64 (t345)) a0 x13_4 = some (r1, r2)) ∧ Aside0 (kq ≤ k) ∧ Drawn0 w wc)
 case first =>
  have H := HC5.out
  clear HC5
  by_cases c6 : a0 = 45
  ·rw [if_pos c6] at H
   obtain ⟨c6b0, c6b1⟩ := bqt c6
   clear c6
   (first | rw [c6b0] | (simp only [i64_w, i32_w]; rw [c6b0]) | skip)
   have H' := am H
   clear H
   go_wp2
   go_meet
   case rel => exact ⟨_, ((a0 == 45)), fr, H', ⟨om⟩, dd⟩
  ·rw [if_neg c6] at H
   obtain ⟨c6b0, c6b1⟩ := bqf c6
   (first | rw [c6b0] | (simp only [i64_w, i32_w]; rw [c6b0]) | skip)
   have H' := am H
   clear H
   go_wp2
   go_meet
   case rel => exact ⟨_, ((a0 == 41)), fr, H', ⟨om⟩, dd⟩
 case rest =>
  clear HC5
  try clear p2
  try clear c6
  try clear c6b0
  try clear c6b1
  try clear p6
  obtain ⟨kq, x13_4, rfl, HA, HJ4, ⟨mc4, rfl⟩⟩ := hcut
  cases kq with
  | zero => exact absurd HA.out (by simp [postbagref04_narrow.j0])
  | succ kj4 =>
   have H := HA.out
   clear HA
   simp only [postbagref04_narrow.j0] at H
   by_cases c7 : x13_4 = true
   ·subst c7
    rw [if_pos rfl] at H
    obtain ⟨t346, A8, H⟩ := bam H
    try dsimp only at H
    simp only [Option.some.injEq, Prod.mk.injEq] at H
    obtain ⟨rfl, rfl⟩ := H
    go_wp2_with (first | ((with_reducible refine gate_callee (f := 105) rfl ?_); refine gl (some 19) rfl rfl Tryz.func105 rfl #[.int .u64 (IntKind.u64.wrap (a1 + a2))] rfl ?_; (with_reducible refine (postbagref04_word.calls (IntKind.u64.wrap (a1 + a2)) t346 _ A8.out).mono ?_); rintro e w' ⟨rfl, ⟨nd, rfl⟩⟩; refine ⟨_, rfl, ?_⟩))
    go_ret2
    exact fd
   ·replace c7 := Bool.eq_false_iff.mpr c7
    subst c7
    rw [if_neg ff] at H
    by_cases c9 : a0 = 46
    ·rw [if_pos c9] at H
     obtain ⟨c9b0, c9b1⟩ := bqt c9
     clear c9
     obtain ⟨t347, A10, H⟩ := bam H
     try dsimp only at H
     simp only [Option.some.injEq, Prod.mk.injEq] at H
     obtain ⟨rfl, rfl⟩ := H
     go_wp2_with (first | ((with_reducible refine gate_callee (f := 105) rfl ?_); refine gl (some 25) rfl rfl Tryz.func105 rfl #[.int .u64 (IntKind.u64.wrap (a1 - a2))] rfl ?_; (with_reducible refine (postbagref04_word.calls (IntKind.u64.wrap (a1 - a2)) t347 _ A10.out).mono ?_); rintro e w' ⟨rfl, ⟨nd, rfl⟩⟩; refine ⟨_, rfl, ?_⟩))
     go_ret2
     exact fd
    ·rw [if_neg c9] at H
     obtain ⟨c9b0, c9b1⟩ := bqf c9
     have HC11 := am H
     clear H
     go_upto_if 26 with (fail)
     go_cut [26] (fun v26 wc => ∃ (kq : Nat) (x26_10 : Bool), v26 = .bool x26_10 ∧ Aside0 (postbagref04_narrow.j1 kq a1 a2 (wrap64 (t345)) a0 x26_10 = some (r1, r2)) ∧ Aside0 (kq ≤ kj4) ∧ Drawn0 w wc)
     case first =>
      have H := HC11.out
      clear HC11
      by_cases c12 : a0 = 47
      ·rw [if_pos c12] at H
       obtain ⟨c12b0, c12b1⟩ := bqt c12
       clear c12
       (first | rw [c12b0] | (simp only [i64_w, i32_w]; rw [c12b0]) | skip)
       have H' := am H
       clear H
       go_wp2
       go_meet
       case rel => exact ⟨_, ((a0 == 47)), fr, H', ⟨by have := HJ4.out; first | omega | exact Nat.le_refl _⟩, dd⟩
      ·rw [if_neg c12] at H
       obtain ⟨c12b0, c12b1⟩ := bqf c12
       (first | rw [c12b0] | (simp only [i64_w, i32_w]; rw [c12b0]) | skip)
       have H' := am H
       clear H
       go_wp2
       go_meet
       case rel => exact ⟨_, ((a0 == 42)), fr, H', ⟨by have := HJ4.out; first | omega | exact Nat.le_refl _⟩, dd⟩
     case rest =>
      clear HC11
      try clear c1
      try clear p2
      try clear c4
      try clear c6
      try clear c6b0
      try clear c6b1
      try clear p6
      try clear c7
      try clear c9
      try clear c9b0
      try clear c9b1
      try clear c10
      try clear c12
      try clear c12b0
      try clear c12b1
      try clear p2
      try clear p6
      obtain ⟨kq, x26_10, rfl, HA, HJ10, ⟨mc10, rfl⟩⟩ := hcut
      cases kq with
      | zero => exact absurd HA.out (by simp [postbagref04_narrow.j1])
      | succ kj10 =>
       have H := HA.out
       clear HA
       simp only [postbagref04_narrow.j1] at H
       by_cases c13 : x26_10 = true
       ·subst c13
        rw [if_pos rfl] at H
        obtain ⟨t348, A14, H⟩ := bam H
        try dsimp only at H
        obtain ⟨t349, A15, H⟩ := bam H
        try dsimp only at H
        simp only [Option.some.injEq, Prod.mk.injEq] at H
        obtain ⟨rfl, rfl⟩ := H
        go_wp2_with (first | ((with_reducible refine gate_callee (f := 101) rfl ?_); refine gl (some 31) rfl rfl Tryz.func101 rfl #[.int .u64 a1, .int .i64 (wrap64 (t345))] rfl ?_; (with_reducible refine (postbagref04_left.calls kj10 a1 (wrap64 (t345)) t348 _ A14.out).mono ?_); rintro e w' ⟨rfl, ⟨nd, rfl⟩⟩; refine ⟨_, rfl, ?_⟩) | ((with_reducible refine gate_callee (f := 105) rfl ?_); refine gl (some 32) rfl rfl Tryz.func105 rfl #[.int .u64 t348] rfl ?_; (with_reducible refine (postbagref04_word.calls t348 t349 _ A15.out).mono ?_); rintro e w' ⟨rfl, ⟨nd, rfl⟩⟩; refine ⟨_, rfl, ?_⟩))
        go_ret2
        exact fd
       ·replace c13 := Bool.eq_false_iff.mpr c13
        subst c13
        rw [if_neg ff] at H
        have HC16 := am H
        clear H
        go_upto_if 33 with (fail)
        go_cut [33] (fun v33 wc => ∃ (kq : Nat) (x33_15 : Bool), v33 = .bool x33_15 ∧ Aside0 (postbagref04_narrow.j2 kq a1 a2 (wrap64 (t345)) a0 x33_15 = some (r1, r2)) ∧ Aside0 (kq ≤ kj10) ∧ Drawn0 w wc)
        case first =>
         have H := HC16.out
         clear HC16
         by_cases c17 : a0 = 48
         ·rw [if_pos c17] at H
          obtain ⟨c17b0, c17b1⟩ := bqt c17
          clear c17
          (first | rw [c17b0] | (simp only [i64_w, i32_w]; rw [c17b0]) | skip)
          have H' := am H
          clear H
          go_wp2
          go_meet
          case rel => exact ⟨_, ((a0 == 48)), fr, H', ⟨by have := HJ4.out; have := HJ10.out; first | omega | exact Nat.le_refl _⟩, dd⟩
         ·rw [if_neg c17] at H
          obtain ⟨c17b0, c17b1⟩ := bqf c17
          (first | rw [c17b0] | (simp only [i64_w, i32_w]; rw [c17b0]) | skip)
          have H' := am H
          clear H
          go_wp2
          go_meet
          case rel => exact ⟨_, ((a0 == 43)), fr, H', ⟨by have := HJ4.out; have := HJ10.out; first | omega | exact Nat.le_refl _⟩, dd⟩
        case rest =>
         clear HC16
         try clear c1
         try clear p2
         try clear c4
         try clear c6
         try clear c6b0
         try clear c6b1
         try clear p6
         try clear c7
         try clear c9
         try clear c9b0
         try clear c9b1
         try clear c10
         try clear c12
         try clear c12b0
         try clear c12b1
         try clear c13
         try clear c17
         try clear c17b0
         try clear c17b1
         try clear p2
         try clear p6
         obtain ⟨kq, x33_15, rfl, HA, HJ15, ⟨mc15, rfl⟩⟩ := hcut
         cases kq with
         | zero => exact absurd HA.out (by simp [postbagref04_narrow.j2])
         | succ kj15 =>
          have H := HA.out
          clear HA
          simp only [postbagref04_narrow.j2] at H
          by_cases c18 : x33_15 = true
          ·subst c18
           rw [if_pos rfl] at H
           obtain ⟨t350, A19, H⟩ := bam H
           try dsimp only at H
           obtain ⟨t351, A20, H⟩ := bam H
           try dsimp only at H
           obtain ⟨t352, A21, H⟩ := bam H
           try dsimp only at H
           simp only [Option.some.injEq, Prod.mk.injEq] at H
           obtain ⟨rfl, rfl⟩ := H
           go_wp2_with (first | ((with_reducible refine gate_callee (f := 106) rfl ?_); refine gl (some 37) rfl rfl Tryz.func106 rfl #[.int .u64 a1] rfl ?_; (with_reducible refine (postbagref04_low.calls a1 t350 _ A19.out).mono ?_); rintro e w' ⟨rfl, ⟨nd, rfl⟩⟩; refine ⟨_, rfl, ?_⟩) | ((with_reducible refine gate_callee (f := 102) rfl ?_); refine gl (some 39) rfl rfl Tryz.func102 rfl #[.int .u64 t350, .int .i64 (wrap64 (t345)), .int .u64 0] rfl ?_; (with_reducible refine (postbagref04_right.calls kj15 t350 (wrap64 (t345)) 0 t351 _ A20.out).mono ?_); rintro e w' ⟨rfl, ⟨nd, rfl⟩⟩; refine ⟨_, rfl, ?_⟩) | ((with_reducible refine gate_callee (f := 105) rfl ?_); refine gl (some 40) rfl rfl Tryz.func105 rfl #[.int .u64 t351] rfl ?_; (with_reducible refine (postbagref04_word.calls t351 t352 _ A21.out).mono ?_); rintro e w' ⟨rfl, ⟨nd, rfl⟩⟩; refine ⟨_, rfl, ?_⟩))
           go_ret2
           exact fd
          ·replace c18 := Bool.eq_false_iff.mpr c18
           subst c18
           rw [if_neg ff] at H
           have HC22 := am H
           clear H
           go_upto_if 41 with (fail)
           go_cut [41] (fun v41 wc => ∃ (kq : Nat) (x41_21 : Bool), v41 = .bool x41_21 ∧ Aside0 (postbagref04_narrow.j3 kq a1 a2 (wrap64 (t345)) a0 x41_21 = some (r1, r2)) ∧ Aside0 (kq ≤ kj15) ∧ Drawn0 w wc)
           case first =>
            have H := HC22.out
            clear HC22
            by_cases c23 : a0 = 49
            ·rw [if_pos c23] at H
             obtain ⟨c23b0, c23b1⟩ := bqt c23
             clear c23
             (first | rw [c23b0] | (simp only [i64_w, i32_w]; rw [c23b0]) | skip)
             have H' := am H
             clear H
             go_wp2
             go_meet
             case rel => exact ⟨_, ((a0 == 49)), fr, H', ⟨by have := HJ4.out; have := HJ10.out; have := HJ15.out; first | omega | exact Nat.le_refl _⟩, dd⟩
            ·rw [if_neg c23] at H
             obtain ⟨c23b0, c23b1⟩ := bqf c23
             (first | rw [c23b0] | (simp only [i64_w, i32_w]; rw [c23b0]) | skip)
             have H' := am H
             clear H
             go_wp2
             go_meet
             case rel => exact ⟨_, ((a0 == 44)), fr, H', ⟨by have := HJ4.out; have := HJ10.out; have := HJ15.out; first | omega | exact Nat.le_refl _⟩, dd⟩
           case rest =>
            clear HC22
            try clear c1
            try clear c2
            try clear p2
            try clear c4
            try clear c6
            try clear c6b0
            try clear c6b1
            try clear p6
            try clear c7
            try clear c9
            try clear c9b0
            try clear c9b1
            try clear c10
            try clear c12
            try clear c12b0
            try clear c12b1
            try clear c13
            try clear c15
            try clear c17
            try clear c17b0
            try clear c17b1
            try clear c18
            try clear c23
            try clear c23b0
            try clear c23b1
            try clear p2
            try clear p6
            obtain ⟨kq, x41_21, rfl, HA, HJ21, ⟨mc21, rfl⟩⟩ := hcut
            cases kq with
            | zero => exact absurd HA.out (by simp [postbagref04_narrow.j3])
            | succ kj21 =>
             have H := HA.out
             clear HA
             simp only [postbagref04_narrow.j3] at H
             by_cases c24 : x41_21 = true
             ·subst c24
              rw [if_pos rfl] at H
              obtain ⟨t353, A25, H⟩ := bam H
              try dsimp only at H
              obtain ⟨t354, A26, H⟩ := bam H
              try dsimp only at H
              obtain ⟨t355, A27, H⟩ := bam H
              try dsimp only at H
              obtain ⟨t356, A28, H⟩ := bam H
              try dsimp only at H
              simp only [Option.some.injEq, Prod.mk.injEq] at H
              obtain ⟨rfl, rfl⟩ := H
              go_wp2_with (first | ((with_reducible refine gate_callee (f := 105) rfl ?_); refine gl (some 45) rfl rfl Tryz.func105 rfl #[.int .u64 a1] rfl ?_; (with_reducible refine (postbagref04_word.calls a1 t353 _ A25.out).mono ?_); rintro e w' ⟨rfl, ⟨nd, rfl⟩⟩; refine ⟨_, rfl, ?_⟩) | ((with_reducible refine gate_callee (f := 103) rfl ?_); refine gl (some 48) rfl rfl Tryz.func103 rfl #[.int .u64 a1, .int .i64 31] rfl ?_; (with_reducible refine (postbagref01_Bit.calls a1 31 t354 _ A26.out).mono ?_); rintro e w' ⟨rfl, ⟨nd, rfl⟩⟩; refine ⟨_, rfl, ?_⟩) | ((with_reducible refine gate_callee (f := 102) rfl ?_); refine gl (some 49) rfl rfl Tryz.func102 rfl #[.int .u64 t353, .int .i64 (wrap64 (t345)), .int .u64 t354] rfl ?_; (with_reducible refine (postbagref04_right.calls kj21 t353 (wrap64 (t345)) t354 t355 _ A27.out).mono ?_); rintro e w' ⟨rfl, ⟨nd, rfl⟩⟩; refine ⟨_, rfl, ?_⟩) | ((with_reducible refine gate_callee (f := 105) rfl ?_); refine gl (some 50) rfl rfl Tryz.func105 rfl #[.int .u64 t355] rfl ?_; (with_reducible refine (postbagref04_word.calls t355 t356 _ A28.out).mono ?_); rintro e w' ⟨rfl, ⟨nd, rfl⟩⟩; refine ⟨_, rfl, ?_⟩))
              go_ret2
              exact fd
             ·replace c24 := Bool.eq_false_iff.mpr c24
              subst c24
              rw [if_neg ff] at H
              by_cases c29 : a0 = 61
              ·rw [if_pos c29] at H
               obtain ⟨c29b0, c29b1⟩ := bqt c29
               clear c29
               obtain ⟨t357, A30, H⟩ := bam H
               try dsimp only at H
               simp only [Option.some.injEq, Prod.mk.injEq] at H
               obtain ⟨rfl, rfl⟩ := H
               go_wp2_with (first | ((with_reducible refine gate_callee (f := 105) rfl ?_); refine gl (some 56) rfl rfl Tryz.func105 rfl #[.int .u64 (IntKind.u64.wrap (a1 * a2))] rfl ?_; (with_reducible refine (postbagref04_word.calls (IntKind.u64.wrap (a1 * a2)) t357 _ A30.out).mono ?_); rintro e w' ⟨rfl, ⟨nd, rfl⟩⟩; refine ⟨_, rfl, ?_⟩))
               go_ret2
               exact fd
              ·rw [if_neg c29] at H
               obtain ⟨c29b0, c29b1⟩ := bqf c29
               by_cases c31 : a0 = 62
               ·rw [if_pos c31] at H
                obtain ⟨c31b0, c31b1⟩ := bqt c31
                clear c31
                obtain ⟨t358, A32, H⟩ := bam H
                try dsimp only at H
                obtain ⟨t359, A33, H⟩ := bam H
                try dsimp only at H
                obtain ⟨t360, A34, H⟩ := bam H
                try dsimp only at H
                obtain ⟨t361, A35, H⟩ := bam H
                try dsimp only at H
                simp only [Option.some.injEq, Prod.mk.injEq] at H
                obtain ⟨rfl, rfl⟩ := H
                go_wp2_with (first | ((with_reducible refine gate_callee (f := 105) rfl ?_); refine gl (some 60) rfl rfl Tryz.func105 rfl #[.int .u64 a1] rfl ?_; (with_reducible refine (postbagref04_word.calls a1 t358 _ A32.out).mono ?_); rintro e w' ⟨rfl, ⟨nd, rfl⟩⟩; refine ⟨_, rfl, ?_⟩) | ((with_reducible refine gate_callee (f := 105) rfl ?_); refine gl (some 62) rfl rfl Tryz.func105 rfl #[.int .u64 a2] rfl ?_; (with_reducible refine (postbagref04_word.calls a2 t359 _ A33.out).mono ?_); rintro e w' ⟨rfl, ⟨nd, rfl⟩⟩; refine ⟨_, rfl, ?_⟩) | ((with_reducible refine gate_callee (f := 107) rfl ?_); refine gl (some 63) rfl rfl Tryz.func107 rfl #[.int .u64 t358, .int .u64 t359, .bool true] rfl ?_; (with_reducible refine (postbagref01_Quo.calls t358 t359 true t360 _ A34.out).mono ?_); rintro e w' ⟨rfl, ⟨nd, rfl⟩⟩; refine ⟨_, rfl, ?_⟩) | ((with_reducible refine gate_callee (f := 105) rfl ?_); refine gl (some 64) rfl rfl Tryz.func105 rfl #[.int .u64 t360] rfl ?_; (with_reducible refine (postbagref04_word.calls t360 t361 _ A35.out).mono ?_); rintro e w' ⟨rfl, ⟨nd, rfl⟩⟩; refine ⟨_, rfl, ?_⟩))
                go_ret2
                exact fd
               ·rw [if_neg c31] at H
                obtain ⟨c31b0, c31b1⟩ := bqf c31
                by_cases c36 : a0 = 63
                ·rw [if_pos c36] at H
                 obtain ⟨c36b0, c36b1⟩ := bqt c36
                 clear c36
                 obtain ⟨t362, A37, H⟩ := bam H
                 try dsimp only at H
                 obtain ⟨t363, A38, H⟩ := bam H
                 try dsimp only at H
                 obtain ⟨t364, A39, H⟩ := bam H
                 try dsimp only at H
                 obtain ⟨t365, A40, H⟩ := bam H
                 try dsimp only at H
                 simp only [Option.some.injEq, Prod.mk.injEq] at H
                 obtain ⟨rfl, rfl⟩ := H
                 go_wp2_with (first | ((with_reducible refine gate_callee (f := 106) rfl ?_); refine gl (some 68) rfl rfl Tryz.func106 rfl #[.int .u64 a1] rfl ?_; (with_reducible refine (postbagref04_low.calls a1 t362 _ A37.out).mono ?_); rintro e w' ⟨rfl, ⟨nd, rfl⟩⟩; refine ⟨_, rfl, ?_⟩) | ((with_reducible refine gate_callee (f := 106) rfl ?_); refine gl (some 70) rfl rfl Tryz.func106 rfl #[.int .u64 a2] rfl ?_; (with_reducible refine (postbagref04_low.calls a2 t363 _ A38.out).mono ?_); rintro e w' ⟨rfl, ⟨nd, rfl⟩⟩; refine ⟨_, rfl, ?_⟩) | ((with_reducible refine gate_callee (f := 107) rfl ?_); refine gl (some 71) rfl rfl Tryz.func107 rfl #[.int .u64 t362, .int .u64 t363, .bool false] rfl ?_; (with_reducible refine (postbagref01_Quo.calls t362 t363 false t364 _ A39.out).mono ?_); rintro e w' ⟨rfl, ⟨nd, rfl⟩⟩; refine ⟨_, rfl, ?_⟩) | ((with_reducible refine gate_callee (f := 105) rfl ?_); refine gl (some 72) rfl rfl Tryz.func105 rfl #[.int .u64 t364] rfl ?_; (with_reducible refine (postbagref04_word.calls t364 t365 _ A40.out).mono ?_); rintro e w' ⟨rfl, ⟨nd, rfl⟩⟩; refine ⟨_, rfl, ?_⟩))
                 go_ret2
                 exact fd
                ·rw [if_neg c36] at H
                 obtain ⟨c36b0, c36b1⟩ := bqf c36
                 by_cases c41 : a0 = 64
                 ·rw [if_pos c41] at H
                  obtain ⟨c41b0, c41b1⟩ := bqt c41
                  clear c41
                  obtain ⟨t366, A42, H⟩ := bam H
                  try dsimp only at H
                  obtain ⟨t367, A43, H⟩ := bam H
                  try dsimp only at H
                  obtain ⟨t368, A44, H⟩ := bam H
                  try dsimp only at H
                  obtain ⟨t369, A45, H⟩ := bam H
                  try dsimp only at H
                  simp only [Option.some.injEq, Prod.mk.injEq] at H
                  obtain ⟨rfl, rfl⟩ := H
                  go_wp2_with (first | ((with_reducible refine gate_callee (f := 105) rfl ?_); refine gl (some 76) rfl rfl Tryz.func105 rfl #[.int .u64 a1] rfl ?_; (with_reducible refine (postbagref04_word.calls a1 t366 _ A42.out).mono ?_); rintro e w' ⟨rfl, ⟨nd, rfl⟩⟩; refine ⟨_, rfl, ?_⟩) | ((with_reducible refine gate_callee (f := 105) rfl ?_); refine gl (some 78) rfl rfl Tryz.func105 rfl #[.int .u64 a2] rfl ?_; (with_reducible refine (postbagref04_word.calls a2 t367 _ A43.out).mono ?_); rintro e w' ⟨rfl, ⟨nd, rfl⟩⟩; refine ⟨_, rfl, ?_⟩) | ((with_reducible refine gate_callee (f := 108) rfl ?_); refine gl (some 79) rfl rfl Tryz.func108 rfl #[.int .u64 t366, .int .u64 t367, .bool true] rfl ?_; (with_reducible refine (postbagref01_Rem.calls t366 t367 true t368 _ A44.out).mono ?_); rintro e w' ⟨rfl, ⟨nd, rfl⟩⟩; refine ⟨_, rfl, ?_⟩) | ((with_reducible refine gate_callee (f := 105) rfl ?_); refine gl (some 80) rfl rfl Tryz.func105 rfl #[.int .u64 t368] rfl ?_; (with_reducible refine (postbagref04_word.calls t368 t369 _ A45.out).mono ?_); rintro e w' ⟨rfl, ⟨nd, rfl⟩⟩; refine ⟨_, rfl, ?_⟩))
                  go_ret2
                  exact fd
                 ·rw [if_neg c41] at H
                  obtain ⟨c41b0, c41b1⟩ := bqf c41
                  by_cases c46 : a0 = 65
                  ·rw [if_pos c46] at H
                   obtain ⟨c46b0, c46b1⟩ := bqt c46
                   clear c46
                   obtain ⟨t370, A47, H⟩ := bam H
                   try dsimp only at H
                   obtain ⟨t371, A48, H⟩ := bam H
                   try dsimp only at H
                   obtain ⟨t372, A49, H⟩ := bam H
                   try dsimp only at H
                   obtain ⟨t373, A50, H⟩ := bam H
                   try dsimp only at H
                   simp only [Option.some.injEq, Prod.mk.injEq] at H
                   obtain ⟨rfl, rfl⟩ := H
                   go_wp2_with (first | ((with_reducible refine gate_callee (f := 106) rfl ?_); refine gl (some 84) rfl rfl Tryz.func106 rfl #[.int .u64 a1] rfl ?_; (with_reducible refine (postbagref04_low.calls a1 t370 _ A47.out).mono ?_); rintro e w' ⟨rfl, ⟨nd, rfl⟩⟩; refine ⟨_, rfl, ?_⟩) | ((with_reducible refine gate_callee (f := 106) rfl ?_); refine gl (some 86) rfl rfl Tryz.func106 rfl #[.int .u64 a2] rfl ?_; (with_reducible refine (postbagref04_low.calls a2 t371 _ A48.out).mono ?_); rintro e w' ⟨rfl, ⟨nd, rfl⟩⟩; refine ⟨_, rfl, ?_⟩) | ((with_reducible refine gate_callee (f := 108) rfl ?_); refine gl (some 87) rfl rfl Tryz.func108 rfl #[.int .u64 t370, .int .u64 t371, .bool false] rfl ?_; (with_reducible refine (postbagref01_Rem.calls t370 t371 false t372 _ A49.out).mono ?_); rintro e w' ⟨rfl, ⟨nd, rfl⟩⟩; refine ⟨_, rfl, ?_⟩) | ((with_reducible refine gate_callee (f := 105) rfl ?_); refine gl (some 88) rfl rfl Tryz.func105 rfl #[.int .u64 t372] rfl ?_; (with_reducible refine (postbagref04_word.calls t372 t373 _ A50.out).mono ?_); rintro e w' ⟨rfl, ⟨nd, rfl⟩⟩; refine ⟨_, rfl, ?_⟩))
                   go_ret2
                   exact fd
                  ·rw [if_neg c46] at H
                   obtain ⟨c46b0, c46b1⟩ := bqf c46
                   simp only [Option.some.injEq, Prod.mk.injEq] at H
                   obtain ⟨rfl, rfl⟩ := H
                   go_wp2
                   go_ret2
                   exact fd
def postbagref01_high0.l0 : Nat → Int → Int → Int → Int → Int → Option (Int)
 | 0, _, _, _, _, _ => none
 | k + 1, x0, x1, x5, x6, x7 => if x7 ≥ 0 then ((postbagref01_Bit.f x6 63).bind fun t374 => ((postbagref01_Bit.f x1 x7).bind fun t375 => (if t375 = 1 then (if (IntKind.u64.wrap ((IntKind.u64.wrap (2 * x6)) + x0)) < (IntKind.u64.wrap (2 * x6)) then (postbagref01_high0.l0 k x0 x1 (IntKind.u64.wrap ((IntKind.u64.wrap ((IntKind.u64.wrap (2 * x5)) + t374)) + 1)) (IntKind.u64.wrap ((IntKind.u64.wrap (2 * x6)) + x0)) (wrap64 (x7 - 1))) else (postbagref01_high0.l0 k x0 x1 (IntKind.u64.wrap ((IntKind.u64.wrap (2 * x5)) + t374)) (IntKind.u64.wrap ((IntKind.u64.wrap (2 * x6)) + x0)) (wrap64 (x7 - 1)))) else (postbagref01_high0.l0 k x0 x1 (IntKind.u64.wrap ((IntKind.u64.wrap (2 * x5)) + t374)) (IntKind.u64.wrap (2 * x6)) (wrap64 (x7 - 1)))))) else (some x5)
def postbagref01_high0.f (k : Nat) (a0 : Int) (a1 : Int) : Option (Int) := postbagref01_high0.l0 k a0 a1 0 0 63
theorem postbagref01_high0.mono_l : ∀ k, (∀ y0 y1 y2 y3 y4, LeO (postbagref01_high0.l0 k y0 y1 y2 y3 y4) (postbagref01_high0.l0 (k + 1) y0 y1 y2 y3 y4))
 | 0 => fun _ _ _ _ _ r h => by simp [postbagref01_high0.l0] at h
 | k + 1 => by
  have ih0 := postbagref01_high0.mono_l k
  ·intro y0 y1 y2 y3 y4
   unfold postbagref01_high0.l0
   exact leo
theorem postbagref01_high0.mono : ∀ a0 a1 k, LeO (postbagref01_high0.f k a0 a1) (postbagref01_high0.f (k + 1) a0 a1) := by
 intro a0 a1 k
 have ih0 := postbagref01_high0.mono_l k
 unfold postbagref01_high0.f
 exact leo
set_option maxHeartbeats 8000000 in
set_option maxRecDepth 100000 in
theorem postbagref01_high0.calls (k : Nat) (a0 : Int) (a1 : Int) (r : Int) (w : World) (h : postbagref01_high0.f k a0 a1 = some r) :
  Calls Tryz.prog 120 #[.int .u64 a0, .int .u64 a1] w fun e w' => e = .returned (.int .u64 r) ∧ Drawn0 w w' := by
 have H := h
 clear h
 unfold postbagref01_high0.f at H
 have H' := am H
 clear H
 go_enter Tryz.func120, Tryz.ntmps120
 go_wp2
 go_loopg [5, 6, 7] k (fun kq v5 v6 v7 w' => ∃ (x5_1 : Int) (x6_1 : Int) (x7_1 : Int), v5 = .int .u64 x5_1 ∧ v6 = .int .u64 x6_1 ∧ v7 = .int .i64 x7_1 ∧ Aside0 (postbagref01_high0.l0 kq a0 a1 x5_1 x6_1 x7_1 = some r) ∧ Aside0 (kq ≤ k) ∧ Drawn0 w w')
 case atStart => exact ⟨(0), (0), (63), fr, fr, fr, H', ⟨Nat.le_refl _⟩, dd⟩
 case round =>
  clear H'
  try clear c1
  try clear p2
  obtain ⟨x5_1, x6_1, x7_1, rfl, rfl, rfl, HA, HK1, ⟨m1, rfl⟩⟩ := hrel
  cases gk with
  | zero => exact absurd HA.out (by simp [postbagref01_high0.l0])
  | succ k1 =>
   have H := HA.out
   clear HA
   simp only [postbagref01_high0.l0] at H
   by_cases c3 : x7_1 ≥ 0
   ·rw [if_pos c3] at H
    have c3b0 : decide (0 ≤ x7_1) = true := decide_eq_true c3
    clear c3
    obtain ⟨t374, A4, H⟩ := bam H
    try dsimp only at H
    obtain ⟨t375, A5, H⟩ := bam H
    try dsimp only at H
    by_cases c6 : t375 = 1
    ·rw [if_pos c6] at H
     obtain ⟨c6b0, c6b1⟩ := bqt c6
     clear c6
     by_cases c7 : (IntKind.u64.wrap ((IntKind.u64.wrap (2 * x6_1)) + a0)) < (IntKind.u64.wrap (2 * x6_1))
     ·rw [if_pos c7] at H
      have c7b0 : decide ((IntKind.u64.wrap ((IntKind.u64.wrap (2 * x6_1)) + a0)) < (IntKind.u64.wrap (2 * x6_1))) = true := decide_eq_true c7
      clear c7
      have H' := am H
      clear H
      go_wp2_with (first | ((with_reducible refine gate_callee (f := 103) rfl ?_); refine gl (some 16) rfl rfl Tryz.func103 rfl #[.int .u64 x6_1, .int .i64 63] rfl ?_; (with_reducible refine (postbagref01_Bit.calls x6_1 63 t374 _ A4.out).mono ?_); rintro e w' ⟨rfl, ⟨nd, rfl⟩⟩; refine ⟨_, rfl, ?_⟩) | ((with_reducible refine gate_callee (f := 103) rfl ?_); refine gl (some 22) rfl rfl Tryz.func103 rfl #[.int .u64 a1, .int .i64 x7_1] rfl ?_; (with_reducible refine (postbagref01_Bit.calls a1 x7_1 t375 _ A5.out).mono ?_); rintro e w' ⟨rfl, ⟨nd, rfl⟩⟩; refine ⟨_, rfl, ?_⟩))
      go_roundg k1
      case measure => have := HK1.out; omega
      case rel => exact ⟨(IntKind.u64.wrap ((IntKind.u64.wrap ((IntKind.u64.wrap (2 * x5_1)) + t374)) + 1)), (IntKind.u64.wrap ((IntKind.u64.wrap (2 * x6_1)) + a0)), (wrap64 (x7_1 - 1)), fr, fr, fr, H', ⟨by have := HK1.out; omega⟩, dd⟩
     ·rw [if_neg c7] at H
      have c7b0 : decide ((IntKind.u64.wrap ((IntKind.u64.wrap (2 * x6_1)) + a0)) < (IntKind.u64.wrap (2 * x6_1))) = false := decide_eq_false c7
      clear c7
      have H' := am H
      clear H
      go_wp2_with (first | ((with_reducible refine gate_callee (f := 103) rfl ?_); refine gl (some 16) rfl rfl Tryz.func103 rfl #[.int .u64 x6_1, .int .i64 63] rfl ?_; (with_reducible refine (postbagref01_Bit.calls x6_1 63 t374 _ A4.out).mono ?_); rintro e w' ⟨rfl, ⟨nd, rfl⟩⟩; refine ⟨_, rfl, ?_⟩) | ((with_reducible refine gate_callee (f := 103) rfl ?_); refine gl (some 22) rfl rfl Tryz.func103 rfl #[.int .u64 a1, .int .i64 x7_1] rfl ?_; (with_reducible refine (postbagref01_Bit.calls a1 x7_1 t375 _ A5.out).mono ?_); rintro e w' ⟨rfl, ⟨nd, rfl⟩⟩; refine ⟨_, rfl, ?_⟩))
      go_roundg k1
      case measure => have := HK1.out; omega
      case rel => exact ⟨(IntKind.u64.wrap ((IntKind.u64.wrap (2 * x5_1)) + t374)), (IntKind.u64.wrap ((IntKind.u64.wrap (2 * x6_1)) + a0)), (wrap64 (x7_1 - 1)), fr, fr, fr, H', ⟨by have := HK1.out; omega⟩, dd⟩
    ·rw [if_neg c6] at H
     obtain ⟨c6b0, c6b1⟩ := bqf c6
     have H' := am H
     clear H
     go_wp2_with (first | ((with_reducible refine gate_callee (f := 103) rfl ?_); refine gl (some 16) rfl rfl Tryz.func103 rfl #[.int .u64 x6_1, .int .i64 63] rfl ?_; (with_reducible refine (postbagref01_Bit.calls x6_1 63 t374 _ A4.out).mono ?_); rintro e w' ⟨rfl, ⟨nd, rfl⟩⟩; refine ⟨_, rfl, ?_⟩) | ((with_reducible refine gate_callee (f := 103) rfl ?_); refine gl (some 22) rfl rfl Tryz.func103 rfl #[.int .u64 a1, .int .i64 x7_1] rfl ?_; (with_reducible refine (postbagref01_Bit.calls a1 x7_1 t375 _ A5.out).mono ?_); rintro e w' ⟨rfl, ⟨nd, rfl⟩⟩; refine ⟨_, rfl, ?_⟩))
     go_roundg k1
     case measure => have := HK1.out; omega
     case rel => exact ⟨(IntKind.u64.wrap ((IntKind.u64.wrap (2 * x5_1)) + t374)), (IntKind.u64.wrap (2 * x6_1)), (wrap64 (x7_1 - 1)), fr, fr, fr, H', ⟨by have := HK1.out; omega⟩, dd⟩
   ·rw [if_neg c3] at H
    have c3b0 : decide (0 ≤ x7_1) = false := decide_eq_false c3
    clear c3
    obtain rfl := Option.some.inj H
    go_wp2
    go_ret
    exact fd
def postbagref01_high.f (a0 : Int) (a1 : Int) : Option (Int) := if U64 a0 ∧ U64 a1 then some (a0 * a1 / 18446744073709551616) else none
theorem postbagref01_high.loop (a b : Int) (ha : U64 a) (hb : U64 b) (i : Nat) : ∀ (k : Nat) (h l : Int), i ≤ 64 → i < k → U64 h → U64 l → h * 18446744073709551616 + l = a * (b / 2 ^ i) →
  postbagref01_high0.l0 k a b h l ((i : Int) - 1) = some (a * b / 18446744073709551616) := by
 induction i with
 | zero =>
  intro k h l hi hk hh hl e
  obtain ⟨k, rfl⟩ : ∃ m, k = m + 1 := ⟨k - 1, by omega⟩
  simp only [postbagref01_high0.l0]
  rw [if_neg (by omega)]
  rw [Int.pow_zero, Int.ediv_one] at e
  unfold U64 at hl
  congr 1; omega
 | succ i ih =>
  intro k h l hi hk hh hl e
  obtain ⟨k, rfl⟩ : ∃ m, k = m + 1 := ⟨k - 1, by omega⟩
  simp only [postbagref01_high0.l0]
  rw [show (((i + 1 : Nat) : Int) - 1) = (i : Int) from by omega, if_pos (by omega), postbagref01_Bit.eq hl, postbagref01_Bit.eq hb, I64.wrap_eq (show I64 ((i : Int) - 1) by unfold I64; omega)]
  simp only [Option.bind_some]
  have hb63 : bitOf l 63 = l / 9223372036854775808 % 2 := bitOf_nat l 63 (by omega)
  have hbi : bitOf b i = b / 2 ^ i % 2 := bitOf_nat b i (by omega)
  have hq : b / 2 ^ i = 2 * (b / 2 ^ (i + 1)) + b / 2 ^ i % 2 := by
   have h2 := Int.emod_add_mul_ediv (b / 2 ^ i) 2
   have h3 : b / 2 ^ i / 2 = b / 2 ^ (i + 1) := by rw [Int.pow_succ, Int.ediv_ediv_of_nonneg (Int.le_of_lt (ipos i))]
   rw [h3] at h2; omega
  have hq0 : 0 ≤ b / 2 ^ i := Int.ediv_nonneg hb.1 (Int.le_of_lt (ipos i))
  have hq1 : b / 2 ^ i ≤ 18446744073709551615 := Int.le_trans (Int.ediv_le_self _ hb.1) hb.2
  have hm0 := Int.mul_nonneg ha.1 hq0
  have hm1 := Int.mul_le_mul ha.2 hq1 hq0 (by decide : (0 : Int) ≤ 18446744073709551615)
  have hm : a * (b / 2 ^ i) = 2 * (a * (b / 2 ^ (i + 1))) + a * (b / 2 ^ i % 2) := by
   have h4 : a * (b / 2 ^ i) = a * (2 * (b / 2 ^ (i + 1)) + b / 2 ^ i % 2) := congrArg (a * ·) hq
   rw [h4, Int.mul_add, Int.mul_left_comm]
  rw [← e] at hm
  generalize hM : a * (b / 2 ^ i) = T at *
  generalize a * (b / 2 ^ (i + 1)) = T2 at *
  rw [hb63, hbi]
  have hbit : b / 2 ^ i % 2 = 0 ∨ b / 2 ^ i % 2 = 1 := by omega
  unfold U64 at hh hl ha
  rcases hbit with hz | hz <;> rw [hz] at hm ⊢
  ·rw [if_neg (by decide)]
   rw [Int.mul_zero] at hm
   refine ih k _ _ (by omega) (by omega) (U64.wrap _) (U64.wrap _) ?_
   simp only [u64w]; omega
  ·rw [if_pos rfl]
   rw [Int.mul_one] at hm
   by_cases hc : IntKind.u64.wrap (IntKind.u64.wrap (2 * l) + a) < IntKind.u64.wrap (2 * l)
   ·rw [if_pos hc]
    refine ih k _ _ (by omega) (by omega) (U64.wrap _) (U64.wrap _) ?_
    simp only [u64w] at *; omega
   ·rw [if_neg hc]
    refine ih k _ _ (by omega) (by omega) (U64.wrap _) (U64.wrap _) ?_
    simp only [u64w] at *; omega
theorem postbagref01_high.spec (a0 a1 r : Int) (h : postbagref01_high.f a0 a1 = some r) : ∃ k, postbagref01_high0.f k a0 a1 = some r := by
 unfold postbagref01_high.f at h
 by_cases hu : U64 a0 ∧ U64 a1
 ·rw [if_pos hu] at h
  obtain rfl := Option.some.inj h
  refine ⟨66, ?_⟩
  unfold postbagref01_high0.f
  refine postbagref01_high.loop a0 a1 hu.1 hu.2 64 66 0 0 (by omega) (by omega) (by decide) (by decide) ?_
  have : a1 / 2 ^ 64 = 0 := by have := hu.2; unfold U64 at this; show a1 / 18446744073709551616 = 0; omega
  rw [this]; simp
 ·rw [if_neg hu] at h; exact absurd h (by simp)
theorem postbagref01_high.calls (a0 : Int) (a1 : Int) (r : Int) (w : World) (h : postbagref01_high.f a0 a1 = some r) :
  Calls Tryz.prog 120 #[.int .u64 a0, .int .u64 a1] w fun e w' => e = .returned (.int .u64 r) ∧ Drawn0 w w' := by
 obtain ⟨k, hk⟩ := postbagref01_high.spec a0 a1 r h
 exact postbagref01_high0.calls k a0 a1 r w hk
def postbagref01_High0.j0 : Nat → Int → Int → Bool → Int → Bool → Option (Int)
 | 0, _, _, _, _, _ => none
 | k + 1, x0, x1, x3, x9, x18 => if x18 = true then (if x3 = true then ((postbagref01_Bit.f x1 63).bind fun t378 => (if t378 = 1 then (some (IntKind.u64.wrap ((IntKind.u64.wrap (x9 - x1)) - x0))) else (some (IntKind.u64.wrap (x9 - x1))))) else (some (IntKind.u64.wrap (x9 - x1)))) else (if x3 = true then ((postbagref01_Bit.f x1 63).bind fun t379 => (if t379 = 1 then (some (IntKind.u64.wrap (x9 - x0))) else (some x9))) else (some x9))
def postbagref01_High0.f (k : Nat) (a0 : Int) (a1 : Int) (a2 : Bool) (a3 : Bool) : Option (Int) := (postbagref01_high.f a0 a1).bind fun t376 => (if a2 = true then ((postbagref01_Bit.f a0 63).bind fun t377 => (postbagref01_High0.j0 k a0 a1 a3 t376 (t377 == 1))) else (postbagref01_High0.j0 k a0 a1 a3 t376 false))
theorem postbagref01_High0.mono_l : ∀ k, (∀ y0 y1 y2 y3 y4, LeO (postbagref01_High0.j0 k y0 y1 y2 y3 y4) (postbagref01_High0.j0 (k + 1) y0 y1 y2 y3 y4))
 | 0 => fun _ _ _ _ _ r h => by simp [postbagref01_High0.j0] at h
 | k + 1 => by
  have ih0 := postbagref01_High0.mono_l k
  ·intro y0 y1 y2 y3 y4
   unfold postbagref01_High0.j0
   exact leo
theorem postbagref01_High0.mono : ∀ a0 a1 a2 a3 k, LeO (postbagref01_High0.f k a0 a1 a2 a3) (postbagref01_High0.f (k + 1) a0 a1 a2 a3) := by
 intro a0 a1 a2 a3 k
 have ih0 := postbagref01_High0.mono_l k
 unfold postbagref01_High0.f
 exact leo
set_option maxHeartbeats 8000000 in
set_option maxRecDepth 100000 in
theorem postbagref01_High0.calls (k : Nat) (a0 : Int) (a1 : Int) (a2 : Bool) (a3 : Bool) (r : Int) (w : World) (h : postbagref01_High0.f k a0 a1 a2 a3 = some r) :
  Calls Tryz.prog 109 #[.int .u64 a0, .int .u64 a1, .bool a2, .bool a3] w fun e w' => e = .returned (.int .u64 r) ∧ Drawn0 w w' := by
 have H := h
 clear h
 unfold postbagref01_High0.f at H
 obtain ⟨t376, A5, H⟩ := bam H
 try dsimp only at H
 have HC6 := am H
 clear H
 go_enter Tryz.func109, Tryz.ntmps109
 go_upto_region 2 with (first | ((with_reducible refine gate_callee (f := 120) rfl ?_); refine gl (some 12) rfl rfl Tryz.func120 rfl #[.int .u64 a0, .int .u64 a1] rfl ?_; (with_reducible refine (postbagref01_high.calls a0 a1 t376 _ A5.out).mono ?_); rintro e w' ⟨rfl, ⟨nd, rfl⟩⟩; refine ⟨_, rfl, ?_⟩))
 (try simp only [Act.put, List.setIfInBounds_toArray, List.set_cons_zero, List.set_cons_succ])
 go_cut [18] (fun v18 wc => ∃ (kq : Nat) (x18_5 : Bool), v18 = .bool x18_5 ∧ Aside0 (postbagref01_High0.j0 kq a0 a1 a3 t376 x18_5 = some r) ∧ Aside0 (kq ≤ k) ∧ Drawn0 w wc)
 case first =>
  have H := HC6.out
  clear HC6
  by_cases c7 : a2 = true
  ·subst c7
   rw [if_pos rfl] at H
   obtain ⟨t377, A8, H⟩ := bam H
   try dsimp only at H
   have H' := am H
   clear H
   go_wp2_with (first | (go_at_call 103; (with_reducible refine (postbagref01_Bit.calls a0 63 t377 _ A8.out).mono ?_); rintro e w' ⟨rfl, ⟨nd, rfl⟩⟩))
   go_meet
   case rel => exact ⟨_, ((t377 == 1)), fr, H', ⟨om⟩, dd⟩
  ·replace c7 := Bool.eq_false_iff.mpr c7
   subst c7
   rw [if_neg ff] at H
   have H' := am H
   clear H
   go_wp2
   go_meet
   case rel => exact ⟨_, (false), fr, H', ⟨om⟩, dd⟩
 case rest =>
  clear HC6
  try clear c1
  try clear p2
  try clear c7
  obtain ⟨kq, x18_5, rfl, HA, HJ5, ⟨mc5, rfl⟩⟩ := hcut
  cases kq with
  | zero => exact absurd HA.out (by simp [postbagref01_High0.j0])
  | succ kj5 =>
   have H := HA.out
   clear HA
   simp only [postbagref01_High0.j0] at H
   by_cases c9 : x18_5 = true
   ·subst c9
    rw [if_pos rfl] at H
    by_cases c10 : a3 = true
    ·subst c10
     rw [if_pos rfl] at H
     obtain ⟨t378, A11, H⟩ := bam H
     try dsimp only at H
     by_cases c12 : t378 = 1
     ·rw [if_pos c12] at H
      obtain ⟨c12b0, c12b1⟩ := bqt c12
      clear c12
      obtain rfl := Option.some.inj H
      go_wp2_with (first | (go_at_call 103; (with_reducible refine (postbagref01_Bit.calls a1 63 t378 _ A11.out).mono ?_); rintro e w' ⟨rfl, ⟨nd, rfl⟩⟩))
      go_ret
      exact fd
     ·rw [if_neg c12] at H
      obtain ⟨c12b0, c12b1⟩ := bqf c12
      obtain rfl := Option.some.inj H
      go_wp2_with (first | (go_at_call 103; (with_reducible refine (postbagref01_Bit.calls a1 63 t378 _ A11.out).mono ?_); rintro e w' ⟨rfl, ⟨nd, rfl⟩⟩))
      go_ret
      exact fd
    ·replace c10 := Bool.eq_false_iff.mpr c10
     subst c10
     rw [if_neg ff] at H
     obtain rfl := Option.some.inj H
     go_wp2
     go_ret
     exact fd
   ·replace c9 := Bool.eq_false_iff.mpr c9
    subst c9
    rw [if_neg ff] at H
    by_cases c13 : a3 = true
    ·subst c13
     rw [if_pos rfl] at H
     obtain ⟨t379, A14, H⟩ := bam H
     try dsimp only at H
     by_cases c15 : t379 = 1
     ·rw [if_pos c15] at H
      obtain ⟨c15b0, c15b1⟩ := bqt c15
      clear c15
      obtain rfl := Option.some.inj H
      go_wp2_with (first | (go_at_call 103; (with_reducible refine (postbagref01_Bit.calls a1 63 t379 _ A14.out).mono ?_); rintro e w' ⟨rfl, ⟨nd, rfl⟩⟩))
      go_ret
      exact fd
     ·rw [if_neg c15] at H
      obtain ⟨c15b0, c15b1⟩ := bqf c15
      obtain rfl := Option.some.inj H
      go_wp2_with (first | (go_at_call 103; (with_reducible refine (postbagref01_Bit.calls a1 63 t379 _ A14.out).mono ?_); rintro e w' ⟨rfl, ⟨nd, rfl⟩⟩))
      go_ret
      exact fd
    ·replace c13 := Bool.eq_false_iff.mpr c13
     subst c13
     rw [if_neg ff] at H
     obtain rfl := Option.some.inj H
     go_wp2
     go_ret
     exact fd
def postbagref01_High.f (a0 : Int) (a1 : Int) (a2 : Bool) (a3 : Bool) : Option (Int) := if U64 a0 ∧ U64 a1 then some (hiOf a0 a1 a2 a3) else none
theorem postbagref01_High.spec (a0 a1 : Int) (a2 a3 : Bool) (r : Int) (h : postbagref01_High.f a0 a1 a2 a3 = some r) : ∃ k, postbagref01_High0.f k a0 a1 a2 a3 = some r := by
 unfold postbagref01_High.f at h
 by_cases hu : U64 a0 ∧ U64 a1
 ·rw [if_pos hu] at h
  obtain rfl := Option.some.inj h
  refine ⟨2, ?_⟩
  unfold postbagref01_High0.f postbagref01_high.f
  rw [if_pos hu, postbagref01_Bit.eq hu.1]
  simp only [Option.bind_some, postbagref01_High0.j0, postbagref01_Bit.eq hu.2]
  have e : ∀ x : Int, U64 x → bitOf x 63 = x / 9223372036854775808 := fun x hx => by
   have h := bitOf_nat x 63 (by omega); unfold U64 at hx; show bitOf x ((63 : Nat) : Int) = _; rw [h]; show x / 9223372036854775808 % 2 = _; omega
  rw [e _ hu.1, e _ hu.2]
  have hr := hi_range a0 a1 hu.1 hu.2
  unfold hiOf
  generalize a0 * a1 / 18446744073709551616 = q at *
  unfold U64 at hr
  cases a2 <;> cases a3 <;> simp only [if_true, if_false, Bool.false_eq_true, false_and, true_and, beq_iff_eq] <;> simp only [u64w]
  ·congr 1; omega
  ·split <;> (congr 1; omega)
  ·split <;> (congr 1; omega)
  ·split <;> split <;> (congr 1; omega)
 ·rw [if_neg hu] at h; exact absurd h (by simp)
theorem postbagref01_High.calls (a0 : Int) (a1 : Int) (a2 : Bool) (a3 : Bool) (r : Int) (w : World) (h : postbagref01_High.f a0 a1 a2 a3 = some r) :
  Calls Tryz.prog 109 #[.int .u64 a0, .int .u64 a1, .bool a2, .bool a3] w fun e w' => e = .returned (.int .u64 r) ∧ Drawn0 w w' := by
 obtain ⟨k, hk⟩ := postbagref01_High.spec a0 a1 a2 a3 r h
 exact postbagref01_High0.calls k a0 a1 a2 a3 r w hk
def postbagref04_many.j0 : Nat → Int → Int → Int → Int → Bool → Option (Int × Bool)
 | 0, _, _, _, _, _ => none
 | k + 1, x0, x1, x2, x8, x29 => if x29 = true then ((postbagref01_Quo.f x1 x2 (x0 == 57)).bind fun t383 => (some (t383, true))) else (if x8 = 59 then ((postbagref01_Rem.f x1 x2 (x0 == 59)).bind fun t384 => (some (t384, true))) else (if x8 = 60 then ((postbagref01_Rem.f x1 x2 (x0 == 59)).bind fun t385 => (some (t385, true))) else (some (0, false))))
def postbagref04_many.f (k : Nat) (a0 : Int) (a1 : Int) (a2 : Int) : Option (Int × Bool) := if a0 = 53 then (some (IntKind.u64.wrap (a1 * a2), true)) else (if a0 = 54 then ((postbagref01_High.f a1 a2 true true).bind fun t380 => (some (t380, true))) else (if a0 = 55 then ((postbagref01_High.f a1 a2 true false).bind fun t381 => (some (t381, true))) else (if a0 = 56 then ((postbagref01_High.f a1 a2 false false).bind fun t382 => (some (t382, true))) else (if a0 = 57 then (postbagref04_many.j0 k a0 a1 a2 a0 (a0 == 57)) else (postbagref04_many.j0 k a0 a1 a2 a0 (a0 == 58))))))
theorem postbagref04_many.mono_l : ∀ k, (∀ y0 y1 y2 y3 y4, LeO (postbagref04_many.j0 k y0 y1 y2 y3 y4) (postbagref04_many.j0 (k + 1) y0 y1 y2 y3 y4))
 | 0 => fun _ _ _ _ _ r h => by simp [postbagref04_many.j0] at h
 | k + 1 => by
  have ih0 := postbagref04_many.mono_l k
  ·intro y0 y1 y2 y3 y4
   unfold postbagref04_many.j0
   exact leo
theorem postbagref04_many.mono : ∀ a0 a1 a2 k, LeO (postbagref04_many.f k a0 a1 a2) (postbagref04_many.f (k + 1) a0 a1 a2) := by
 intro a0 a1 a2 k
 have ih0 := postbagref04_many.mono_l k
 unfold postbagref04_many.f
 exact leo
set_option maxHeartbeats 8000000 in
set_option maxRecDepth 100000 in
theorem postbagref04_many.calls (k : Nat) (a0 : Int) (a1 : Int) (a2 : Int) (r1 : Int) (r2 : Bool) (w : World) (h : postbagref04_many.f k a0 a1 a2 = some (r1, r2)) :
  Calls Tryz.prog 72 #[.int .i64 a0, .int .u64 a1, .int .u64 a2] w fun e w' => e = .returned (.tuple #[.int .u64 r1, .bool r2]) ∧ Drawn0 w w' := by
 have H := h
 clear h
 unfold postbagref04_many.f at H
 by_cases c4 : a0 = 53
 ·rw [if_pos c4] at H
  obtain ⟨c4b0, c4b1⟩ := bqt c4
  clear c4
  simp only [Option.some.injEq, Prod.mk.injEq] at H
  obtain ⟨rfl, rfl⟩ := H
  go_enter Tryz.func72, Tryz.ntmps72
  go_wp2
  go_ret2
  exact fd
 ·rw [if_neg c4] at H
  obtain ⟨c4b0, c4b1⟩ := bqf c4
  by_cases c5 : a0 = 54
  ·rw [if_pos c5] at H
   obtain ⟨c5b0, c5b1⟩ := bqt c5
   clear c5
   obtain ⟨t380, A6, H⟩ := bam H
   try dsimp only at H
   simp only [Option.some.injEq, Prod.mk.injEq] at H
   obtain ⟨rfl, rfl⟩ := H
   go_enter Tryz.func72, Tryz.ntmps72
   go_wp2_with (first | ((with_reducible refine gate_callee (f := 109) rfl ?_); refine gl (some 18) rfl rfl Tryz.func109 rfl #[.int .u64 a1, .int .u64 a2, .bool true, .bool true] rfl ?_; (with_reducible refine (postbagref01_High.calls a1 a2 true true t380 _ A6.out).mono ?_); rintro e w' ⟨rfl, ⟨nd, rfl⟩⟩; refine ⟨_, rfl, ?_⟩))
   go_ret2
   exact fd
  ·rw [if_neg c5] at H
   obtain ⟨c5b0, c5b1⟩ := bqf c5
   by_cases c7 : a0 = 55
   ·rw [if_pos c7] at H
    obtain ⟨c7b0, c7b1⟩ := bqt c7
    clear c7
    obtain ⟨t381, A8, H⟩ := bam H
    try dsimp only at H
    simp only [Option.some.injEq, Prod.mk.injEq] at H
    obtain ⟨rfl, rfl⟩ := H
    go_enter Tryz.func72, Tryz.ntmps72
    go_wp2_with (first | ((with_reducible refine gate_callee (f := 109) rfl ?_); refine gl (some 23) rfl rfl Tryz.func109 rfl #[.int .u64 a1, .int .u64 a2, .bool true, .bool false] rfl ?_; (with_reducible refine (postbagref01_High.calls a1 a2 true false t381 _ A8.out).mono ?_); rintro e w' ⟨rfl, ⟨nd, rfl⟩⟩; refine ⟨_, rfl, ?_⟩))
    go_ret2
    exact fd
   ·rw [if_neg c7] at H
    obtain ⟨c7b0, c7b1⟩ := bqf c7
    by_cases c9 : a0 = 56
    ·rw [if_pos c9] at H
     obtain ⟨c9b0, c9b1⟩ := bqt c9
     clear c9
     obtain ⟨t382, A10, H⟩ := bam H
     try dsimp only at H
     simp only [Option.some.injEq, Prod.mk.injEq] at H
     obtain ⟨rfl, rfl⟩ := H
     go_enter Tryz.func72, Tryz.ntmps72
     go_wp2_with (first | ((with_reducible refine gate_callee (f := 109) rfl ?_); refine gl (some 28) rfl rfl Tryz.func109 rfl #[.int .u64 a1, .int .u64 a2, .bool false, .bool false] rfl ?_; (with_reducible refine (postbagref01_High.calls a1 a2 false false t382 _ A10.out).mono ?_); rintro e w' ⟨rfl, ⟨nd, rfl⟩⟩; refine ⟨_, rfl, ?_⟩))
     go_ret2
     exact fd
    ·rw [if_neg c9] at H
     obtain ⟨c9b0, c9b1⟩ := bqf c9
     have HC11 := am H
     clear H
     go_enter Tryz.func72, Tryz.ntmps72
     go_upto_if 29 with (fail)
     go_cut [29] (fun v29 wc => ∃ (kq : Nat) (x29_10 : Bool), v29 = .bool x29_10 ∧ Aside0 (postbagref04_many.j0 kq a0 a1 a2 a0 x29_10 = some (r1, r2)) ∧ Aside0 (kq ≤ k) ∧ Drawn0 w wc)
     case first =>
      have H := HC11.out
      clear HC11
      by_cases c12 : a0 = 57
      ·rw [if_pos c12] at H
       obtain ⟨c12b0, c12b1⟩ := bqt c12
       clear c12
       (first | rw [c12b0] | (simp only [i64_w, i32_w]; rw [c12b0]) | skip)
       have H' := am H
       clear H
       go_wp2
       go_meet
       case rel => exact ⟨_, ((a0 == 57)), fr, H', ⟨om⟩, dd⟩
      ·rw [if_neg c12] at H
       obtain ⟨c12b0, c12b1⟩ := bqf c12
       (first | rw [c12b0] | (simp only [i64_w, i32_w]; rw [c12b0]) | skip)
       have H' := am H
       clear H
       go_wp2
       go_meet
       case rel => exact ⟨_, ((a0 == 58)), fr, H', ⟨om⟩, dd⟩
     case rest =>
      clear HC11
      try clear c1
      try clear p2
      try clear c4
      try clear c4b0
      try clear c4b1
      try clear c5
      try clear c5b0
      try clear c5b1
      try clear c7
      try clear c7b0
      try clear c7b1
      try clear c9
      try clear c9b0
      try clear c9b1
      try clear c10
      try clear c12
      try clear c12b0
      try clear c12b1
      obtain ⟨kq, x29_10, rfl, HA, HJ10, ⟨mc10, rfl⟩⟩ := hcut
      cases kq with
      | zero => exact absurd HA.out (by simp [postbagref04_many.j0])
      | succ kj10 =>
       have H := HA.out
       clear HA
       simp only [postbagref04_many.j0] at H
       by_cases c13 : x29_10 = true
       ·subst c13
        rw [if_pos rfl] at H
        obtain ⟨t383, A14, H⟩ := bam H
        try dsimp only at H
        simp only [Option.some.injEq, Prod.mk.injEq] at H
        obtain ⟨rfl, rfl⟩ := H
        go_wp2_with (first | ((with_reducible refine gate_callee (f := 107) rfl ?_); refine gl (some 36) rfl rfl Tryz.func107 rfl #[.int .u64 a1, .int .u64 a2, .bool (a0 == 57)] rfl ?_; (with_reducible refine (postbagref01_Quo.calls a1 a2 (a0 == 57) t383 _ A14.out).mono ?_); rintro e w' ⟨rfl, ⟨nd, rfl⟩⟩; refine ⟨_, rfl, ?_⟩))
        go_ret2
        exact fd
       ·replace c13 := Bool.eq_false_iff.mpr c13
        subst c13
        rw [if_neg ff] at H
        by_cases c15 : a0 = 59
        ·rw [if_pos c15] at H
         obtain ⟨c15b0, c15b1⟩ := bqt c15
         clear c15
         obtain ⟨t384, A16, H⟩ := bam H
         try dsimp only at H
         simp only [Option.some.injEq, Prod.mk.injEq] at H
         obtain ⟨rfl, rfl⟩ := H
         go_wp2_with (first | ((with_reducible refine gate_callee (f := 108) rfl ?_); refine gl (some 44) rfl rfl Tryz.func108 rfl #[.int .u64 a1, .int .u64 a2, .bool true] rfl ?_; (with_reducible refine (postbagref01_Rem.calls a1 a2 true t384 _ (by have hh_ := A16.out; rw [c15b0] at hh_; exact hh_)).mono ?_); rintro e w' ⟨rfl, ⟨nd, rfl⟩⟩; refine ⟨_, rfl, ?_⟩))
         go_ret2
         exact fd
        ·rw [if_neg c15] at H
         obtain ⟨c15b0, c15b1⟩ := bqf c15
         by_cases c17 : a0 = 60
         ·rw [if_pos c17] at H
          obtain ⟨c17b0, c17b1⟩ := bqt c17
          clear c17
          obtain ⟨t385, A18, H⟩ := bam H
          try dsimp only at H
          simp only [Option.some.injEq, Prod.mk.injEq] at H
          obtain ⟨rfl, rfl⟩ := H
          go_wp2_with (first | ((with_reducible refine gate_callee (f := 108) rfl ?_); refine gl (some 44) rfl rfl Tryz.func108 rfl #[.int .u64 a1, .int .u64 a2, .bool false] rfl ?_; (with_reducible refine (postbagref01_Rem.calls a1 a2 false t385 _ (by have hh_ := A18.out; rw [c15b0] at hh_; exact hh_)).mono ?_); rintro e w' ⟨rfl, ⟨nd, rfl⟩⟩; refine ⟨_, rfl, ?_⟩))
          go_ret2
          exact fd
         ·rw [if_neg c17] at H
          obtain ⟨c17b0, c17b1⟩ := bqf c17
          simp only [Option.some.injEq, Prod.mk.injEq] at H
          obtain ⟨rfl, rfl⟩ := H
          go_wp2
          go_ret2
          exact fd
def postbagref04_Value.j0 : Nat → Int → Int → Int → Int → Int → Int → Int → Int → Int → Bool → Bool → Option (Int × Int)
 | 0, _, _, _, _, _, _, _, _, _, _, _ => none
 | k + 1, x1, x2, x3, x11, x387000, x387001, x387002, x387003, x387004, x387005, x387006 => if x387000 = 1 then (some (x11, 0)) else (if x387000 = 2 then (some (IntKind.u64.wrap (x1 + x11), 0)) else (if x387000 = 3 then (some (IntKind.u64.wrap (x1 + 4), 0)) else (if x387000 = 4 then (some (IntKind.u64.wrap (x1 + 4), 0)) else ((postbagref04_plain.f k x387000 x2 x11).bind fun bt392 => (if bt392.2 = true then (some (bt392.1, 0)) else ((postbagref04_narrow.f k x387000 x2 x11).bind fun bt394 => (if bt394.2 = true then (some (bt394.1, 0)) else ((postbagref04_many.f k x387000 x2 x3).bind fun bt396 => (if bt396.2 = true then (some (bt396.1, 0)) else (some (0, 80)))))))))))
def postbagref04_Value.f (k : Nat) (a0_0 : Int) (a0_1 : Int) (a0_2 : Int) (a0_3 : Int) (a0_4 : Int) (a0_5 : Bool) (a0_6 : Bool) (a1 : Int) (a2 : Int) (a3 : Int) : Option (Int × Int) := (postbagref02_Good.f a0_0 a0_1 a0_2 a0_3 a0_4 a0_5 a0_6).bind fun t387 => (if t387 = true then ((postbagref02_Row.f a0_0).bind fun bt388 => (if bt388.1 = 8 then (postbagref04_Value.j0 k a1 a2 a3 a3 a0_0 a0_1 a0_2 a0_3 a0_4 a0_5 a0_6) else (postbagref04_Value.j0 k a1 a2 a3 (IntKind.u64.wrap (a0_4)) a0_0 a0_1 a0_2 a0_3 a0_4 a0_5 a0_6))) else (some (0, 20)))
theorem postbagref04_Value.mono_l : ∀ k, (∀ y0 y1 y2 y3 y4 y5 y6 y7 y8 y9 y10, LeO (postbagref04_Value.j0 k y0 y1 y2 y3 y4 y5 y6 y7 y8 y9 y10) (postbagref04_Value.j0 (k + 1) y0 y1 y2 y3 y4 y5 y6 y7 y8 y9 y10))
 | 0 => fun _ _ _ _ _ _ _ _ _ _ _ r h => by simp [postbagref04_Value.j0] at h
 | k + 1 => by
  have ih0 := postbagref04_Value.mono_l k
  ·intro y0 y1 y2 y3 y4 y5 y6 y7 y8 y9 y10
   unfold postbagref04_Value.j0
   repeat' first
   | (with_reducible exact ih0 _ _ _ _ _ _ _ _ _ _ _)
   | (with_reducible exact postbagref04_many.mono _ _ _ _)
   | (with_reducible exact postbagref04_narrow.mono _ _ _ _)
   | (with_reducible exact postbagref04_plain.mono _ _ _ _)
   | (with_reducible exact LeO.refl _)
   | (with_reducible exact LeO.none _)
   | (with_reducible refine LeO.ite ?_ ?_)
   | (with_reducible refine LeO.bind ?_ (fun _ => ?_))
   | exact ih0 _ _ _ _ _ _ _ _ _ _ _
   | exact postbagref04_many.mono _ _ _ _
   | exact postbagref04_narrow.mono _ _ _ _
   | exact postbagref04_plain.mono _ _ _ _
   | exact LeO.none _
   | refine LeO.ite ?_ ?_
   | refine LeO.bind ?_ (fun _ => ?_)
theorem postbagref04_Value.mono : ∀ a0 a1 a2 a3 a4 a5 a6 a7 a8 a9 k, LeO (postbagref04_Value.f k a0 a1 a2 a3 a4 a5 a6 a7 a8 a9) (postbagref04_Value.f (k + 1) a0 a1 a2 a3 a4 a5 a6 a7 a8 a9) := by
 intro a0 a1 a2 a3 a4 a5 a6 a7 a8 a9 k
 have ih0 := postbagref04_Value.mono_l k
 unfold postbagref04_Value.f
 repeat' first
   | (with_reducible exact ih0 _ _ _ _ _ _ _ _ _ _ _)
   | (with_reducible exact postbagref04_many.mono _ _ _ _)
   | (with_reducible exact postbagref04_narrow.mono _ _ _ _)
   | (with_reducible exact postbagref04_plain.mono _ _ _ _)
   | (with_reducible exact LeO.refl _)
   | (with_reducible exact LeO.none _)
   | (with_reducible refine LeO.ite ?_ ?_)
   | (with_reducible refine LeO.bind ?_ (fun _ => ?_))
   | exact ih0 _ _ _ _ _ _ _ _ _ _ _
   | exact postbagref04_many.mono _ _ _ _
   | exact postbagref04_narrow.mono _ _ _ _
   | exact postbagref04_plain.mono _ _ _ _
   | exact LeO.none _
   | refine LeO.ite ?_ ?_
   | refine LeO.bind ?_ (fun _ => ?_)
set_option maxHeartbeats 8000000 in
set_option maxRecDepth 100000 in
theorem postbagref04_Value.calls (k : Nat) (a0_0 : Int) (a0_1 : Int) (a0_2 : Int) (a0_3 : Int) (a0_4 : Int) (a0_5 : Bool) (a0_6 : Bool) (a1 : Int) (a2 : Int) (a3 : Int) (r1 : Int) (r2 : Int) (w : World) (h : postbagref04_Value.f k a0_0 a0_1 a0_2 a0_3 a0_4 a0_5 a0_6 a1 a2 a3 = some (r1, r2)) :
  Calls Tryz.prog 36 #[.agg #[.int .i64 a0_0, .int .i64 a0_1, .int .i64 a0_2, .int .i64 a0_3, .int .i64 a0_4, .bool a0_5, .bool a0_6], .int .u64 a1, .int .u64 a2, .int .u64 a3] w fun e w' => e = .returned (.tuple #[.int .u64 r1, .int .i64 r2]) ∧ Below w.heap.size w w' := by
 have hu50 := Tryz.underlying50
 have hix111_0 : ∀ (x0_ x1_ x2_ x3_ : Value) (W : World), (Instr.index 111 (.agg #[x0_, x1_, x2_, x3_]) (.int .i64 0)).run Tryz.prog W = .ok x0_ W := fun x0_ x1_ x2_ x3_ W => by kernel_rfl
 have HB := am (Below.refl w.heap.size w)
 have H := h
 clear h
 unfold postbagref04_Value.f at H
 obtain ⟨t387, A5, H⟩ := bam H
 try dsimp only at H
 by_cases c6 : t387 = true
 ·subst c6
  rw [if_pos rfl] at H
  obtain ⟨⟨t388, t389, t390, t391⟩, A7, H⟩ := bam H
  try dsimp only at H
  have HC8 := am H
  clear H
  go_enter Tryz.func36, Tryz.ntmps36
  go_upto_if 23 with (first | ((with_reducible refine gate_dst (N := 4) rfl ?_); refine be 4 50 #[.int .i64 a0_0, .int .i64 a0_1, .int .i64 a0_2, .int .i64 a0_3, .int .i64 a0_4, .bool a0_5, .bool a0_6] ?_; intro gb386 hg w9 hbox hb; have BK386 := am hbox; have GW386 := bz HB hg; have GE386 := bz HB hg; replace HB := bn HB hb; clear hb hbox hg; obtain ⟨z10_0, z10_1, z10_2, z10_3, z10_4, z10_5, z10_6, f10_0, f10_1, f10_2, f10_3, f10_4, f10_5, f10_6⟩ := cf7 BK386) | ((with_reducible refine gate_callee (f := 68) rfl ?_); refine gl (some 15) rfl rfl Tryz.func68 rfl #[.agg #[.int .i64 a0_0, .int .i64 a0_1, .int .i64 a0_2, .int .i64 a0_3, .int .i64 a0_4, .bool a0_5, .bool a0_6]] rfl ?_; (with_reducible refine (postbagref02_Good.calls a0_0 a0_1 a0_2 a0_3 a0_4 a0_5 a0_6 true _ A5.out).mono ?_); rintro e w11 ⟨rfl, hb⟩; refine ⟨_, rfl, ?_⟩; replace BK386 := bk BK386 hb; replace HB := bns HB GE386 hb; (try clear hb); (try clear hb2); (try clear hk); (try clear hi); obtain ⟨z12_0, z12_1, z12_2, z12_3, z12_4, z12_5, z12_6, f12_0, f12_1, f12_2, f12_3, f12_4, f12_5, f12_6⟩ := cf7 BK386) | ((with_reducible refine gate_callee (f := 69) rfl ?_); refine gl (some 19) rfl rfl Tryz.func69 rfl #[.int .i64 a0_0] rfl ?_; (with_reducible refine (postbagref02_Row.calls a0_0 t388 t389 t390 t391 _ A7.out).mono ?_); rintro e w13 ⟨rfl, hb⟩; refine ⟨_, rfl, ?_⟩; replace BK386 := bk BK386 hb; replace HB := bns HB GE386 hb; (try clear hb); (try clear hb2); (try clear hk); (try clear hi)))
  (try simp only [Act.put, List.setIfInBounds_toArray, List.set_cons_zero, List.set_cons_succ])
  go_cut [11] (fun v11 wc => ∃ (kq : Nat) (x11_7 : Int), v11 = .int .u64 x11_7 ∧ Aside0 (postbagref04_Value.j0 kq a1 a2 a3 x11_7 a0_0 a0_1 a0_2 a0_3 a0_4 a0_5 a0_6 = some (r1, r2)) ∧ Aside0 (kq ≤ k) ∧ Aside0 (wc.heap[gb386]? = some (.cells #[.int .i64 a0_0, .int .i64 a0_1, .int .i64 a0_2, .int .i64 a0_3, .int .i64 a0_4, .bool a0_5, .bool a0_6] 50 (0, 0))) ∧ Aside0 (Below w.heap.size w wc))
  case first =>
   have H := HC8.out
   clear HC8
   by_cases c14 : t388 = 8
   ·rw [if_pos c14] at H
    obtain ⟨c14b0, c14b1⟩ := bqt c14
    clear c14
    (first | rw [c14b0] | (simp only [i64_w, i32_w]; rw [c14b0]) | skip)
    have H' := am H
    clear H
    go_wp2
    go_meet
    case rel => exact ⟨_, (a3), fr, H', ⟨om⟩, ⟨bu BK386⟩, ⟨bs HB GE386⟩⟩
   ·rw [if_neg c14] at H
    obtain ⟨c14b0, c14b1⟩ := bqf c14
    (first | rw [c14b0] | (simp only [i64_w, i32_w]; rw [c14b0]) | skip)
    have H' := am H
    clear H
    obtain ⟨z15_0, z15_1, z15_2, z15_3, z15_4, z15_5, z15_6, f15_0, f15_1, f15_2, f15_3, f15_4, f15_5, f15_6⟩ := cf7 BK386
    go_wp2
    go_meet
    case rel => exact ⟨_, (IntKind.u64.wrap (a0_4)), fr, H', ⟨om⟩, ⟨bu BK386⟩, ⟨bs HB GE386⟩⟩
  case rest =>
   clear HC8
   try clear c1
   try clear p2
   try clear c3
   try clear c6
   try clear c14
   try clear c14b0
   try clear c14b1
   try clear z10_0
   try clear z10_1
   try clear z10_2
   try clear z10_3
   try clear z10_4
   try clear z10_5
   try clear z10_6
   try clear z12_0
   try clear z12_1
   try clear z12_2
   try clear z12_3
   try clear z12_4
   try clear z12_5
   try clear z12_6
   try clear z15_0
   try clear z15_1
   try clear z15_2
   try clear z15_3
   try clear z15_4
   try clear z15_5
   try clear z15_6
   try clear f10_0
   try clear f10_1
   try clear f10_2
   try clear f10_3
   try clear f10_4
   try clear f10_5
   try clear f10_6
   try clear f12_0
   try clear f12_1
   try clear f12_2
   try clear f12_3
   try clear f12_4
   try clear f12_5
   try clear f12_6
   try clear f15_0
   try clear f15_1
   try clear f15_2
   try clear f15_3
   try clear f15_4
   try clear f15_5
   try clear f15_6
   obtain ⟨kq, x11_7, rfl, HA, HJ7, BK386, HB⟩ := hcut
   cases kq with
   | zero => exact absurd HA.out (by simp [postbagref04_Value.j0])
   | succ kj7 =>
    have H := HA.out
    clear HA
    simp only [postbagref04_Value.j0] at H
    by_cases c16 : a0_0 = 1
    ·rw [if_pos c16] at H
     obtain ⟨c16b0, c16b1⟩ := bqt c16
     clear c16
     simp only [Option.some.injEq, Prod.mk.injEq] at H
     obtain ⟨rfl, rfl⟩ := H
     obtain ⟨z17_0, z17_1, z17_2, z17_3, z17_4, z17_5, z17_6, f17_0, f17_1, f17_2, f17_3, f17_4, f17_5, f17_6⟩ := cf7 BK386
     go_wp2
     go_ret2
     exact ⟨fe, bs HB GE386⟩
    ·rw [if_neg c16] at H
     obtain ⟨c16b0, c16b1⟩ := bqf c16
     by_cases c18 : a0_0 = 2
     ·rw [if_pos c18] at H
      obtain ⟨c18b0, c18b1⟩ := bqt c18
      clear c18
      simp only [Option.some.injEq, Prod.mk.injEq] at H
      obtain ⟨rfl, rfl⟩ := H
      obtain ⟨z19_0, z19_1, z19_2, z19_3, z19_4, z19_5, z19_6, f19_0, f19_1, f19_2, f19_3, f19_4, f19_5, f19_6⟩ := cf7 BK386
      go_wp2
      go_ret2
      exact ⟨fe, bs HB GE386⟩
     ·rw [if_neg c18] at H
      obtain ⟨c18b0, c18b1⟩ := bqf c18
      by_cases c20 : a0_0 = 3
      ·rw [if_pos c20] at H
       obtain ⟨c20b0, c20b1⟩ := bqt c20
       clear c20
       simp only [Option.some.injEq, Prod.mk.injEq] at H
       obtain ⟨rfl, rfl⟩ := H
       obtain ⟨z21_0, z21_1, z21_2, z21_3, z21_4, z21_5, z21_6, f21_0, f21_1, f21_2, f21_3, f21_4, f21_5, f21_6⟩ := cf7 BK386
       go_wp2
       go_ret2
       exact ⟨fe, bs HB GE386⟩
      ·rw [if_neg c20] at H
       obtain ⟨c20b0, c20b1⟩ := bqf c20
       by_cases c22 : a0_0 = 4
       ·rw [if_pos c22] at H
        obtain ⟨c22b0, c22b1⟩ := bqt c22
        clear c22
        simp only [Option.some.injEq, Prod.mk.injEq] at H
        obtain ⟨rfl, rfl⟩ := H
        obtain ⟨z23_0, z23_1, z23_2, z23_3, z23_4, z23_5, z23_6, f23_0, f23_1, f23_2, f23_3, f23_4, f23_5, f23_6⟩ := cf7 BK386
        go_wp2
        go_ret2
        exact ⟨fe, bs HB GE386⟩
       ·rw [if_neg c22] at H
        obtain ⟨c22b0, c22b1⟩ := bqf c22
        obtain ⟨⟨t392, t393⟩, A24, H⟩ := bam H
        try dsimp only at H
        by_cases c25 : t393 = true
        ·subst c25
         rw [if_pos rfl] at H
         simp only [Option.some.injEq, Prod.mk.injEq] at H
         obtain ⟨rfl, rfl⟩ := H
         obtain ⟨z26_0, z26_1, z26_2, z26_3, z26_4, z26_5, z26_6, f26_0, f26_1, f26_2, f26_3, f26_4, f26_5, f26_6⟩ := cf7 BK386
         go_wp2_with (first | ((with_reducible refine gate_callee (f := 70) rfl ?_); refine gl (some 47) rfl rfl Tryz.func70 rfl #[.int .i64 a0_0, .int .u64 a2, .int .u64 x11_7] rfl ?_; (with_reducible refine (postbagref04_plain.calls kj7 a0_0 a2 x11_7 t392 true _ A24.out).mono ?_); rintro e w' ⟨rfl, ⟨nd, rfl⟩⟩; refine ⟨_, rfl, ?_⟩))
         go_ret2
         exact ⟨fe, bs HB GE386⟩
        ·replace c25 := Bool.eq_false_iff.mpr c25
         subst c25
         rw [if_neg ff] at H
         obtain ⟨⟨t394, t395⟩, A27, H⟩ := bam H
         try dsimp only at H
         by_cases c28 : t395 = true
         ·subst c28
          rw [if_pos rfl] at H
          simp only [Option.some.injEq, Prod.mk.injEq] at H
          obtain ⟨rfl, rfl⟩ := H
          obtain ⟨z29_0, z29_1, z29_2, z29_3, z29_4, z29_5, z29_6, f29_0, f29_1, f29_2, f29_3, f29_4, f29_5, f29_6⟩ := cf7 BK386
          go_wp2_with (first | ((with_reducible refine gate_callee (f := 70) rfl ?_); refine gl (some 47) rfl rfl Tryz.func70 rfl #[.int .i64 a0_0, .int .u64 a2, .int .u64 x11_7] rfl ?_; (with_reducible refine (postbagref04_plain.calls kj7 a0_0 a2 x11_7 t392 false _ A24.out).mono ?_); rintro e w' ⟨rfl, ⟨nd, rfl⟩⟩; refine ⟨_, rfl, ?_⟩) | ((with_reducible refine gate_callee (f := 71) rfl ?_); refine gl (some 57) rfl rfl Tryz.func71 rfl #[.int .i64 a0_0, .int .u64 a2, .int .u64 x11_7] rfl ?_; (with_reducible refine (postbagref04_narrow.calls kj7 a0_0 a2 x11_7 t394 true _ A27.out).mono ?_); rintro e w' ⟨rfl, ⟨nd, rfl⟩⟩; refine ⟨_, rfl, ?_⟩))
          go_ret2
          exact ⟨fe, bs HB GE386⟩
         ·replace c28 := Bool.eq_false_iff.mpr c28
          subst c28
          rw [if_neg ff] at H
          obtain ⟨⟨t396, t397⟩, A30, H⟩ := bam H
          try dsimp only at H
          by_cases c31 : t397 = true
          ·subst c31
           rw [if_pos rfl] at H
           simp only [Option.some.injEq, Prod.mk.injEq] at H
           obtain ⟨rfl, rfl⟩ := H
           obtain ⟨z32_0, z32_1, z32_2, z32_3, z32_4, z32_5, z32_6, f32_0, f32_1, f32_2, f32_3, f32_4, f32_5, f32_6⟩ := cf7 BK386
           go_wp2_with (first | ((with_reducible refine gate_callee (f := 70) rfl ?_); refine gl (some 47) rfl rfl Tryz.func70 rfl #[.int .i64 a0_0, .int .u64 a2, .int .u64 x11_7] rfl ?_; (with_reducible refine (postbagref04_plain.calls kj7 a0_0 a2 x11_7 t392 false _ A24.out).mono ?_); rintro e w' ⟨rfl, ⟨nd, rfl⟩⟩; refine ⟨_, rfl, ?_⟩) | ((with_reducible refine gate_callee (f := 71) rfl ?_); refine gl (some 57) rfl rfl Tryz.func71 rfl #[.int .i64 a0_0, .int .u64 a2, .int .u64 x11_7] rfl ?_; (with_reducible refine (postbagref04_narrow.calls kj7 a0_0 a2 x11_7 t394 false _ A27.out).mono ?_); rintro e w' ⟨rfl, ⟨nd, rfl⟩⟩; refine ⟨_, rfl, ?_⟩) | ((with_reducible refine gate_callee (f := 72) rfl ?_); refine gl (some 67) rfl rfl Tryz.func72 rfl #[.int .i64 a0_0, .int .u64 a2, .int .u64 a3] rfl ?_; (with_reducible refine (postbagref04_many.calls kj7 a0_0 a2 a3 t396 true _ A30.out).mono ?_); rintro e w' ⟨rfl, ⟨nd, rfl⟩⟩; refine ⟨_, rfl, ?_⟩))
           go_ret2
           exact ⟨fe, bs HB GE386⟩
          ·replace c31 := Bool.eq_false_iff.mpr c31
           subst c31
           rw [if_neg ff] at H
           simp only [Option.some.injEq, Prod.mk.injEq] at H
           obtain ⟨rfl, rfl⟩ := H
           obtain ⟨z33_0, z33_1, z33_2, z33_3, z33_4, z33_5, z33_6, f33_0, f33_1, f33_2, f33_3, f33_4, f33_5, f33_6⟩ := cf7 BK386
           go_wp2_with (first | ((with_reducible refine gate_callee (f := 70) rfl ?_); refine gl (some 47) rfl rfl Tryz.func70 rfl #[.int .i64 a0_0, .int .u64 a2, .int .u64 x11_7] rfl ?_; (with_reducible refine (postbagref04_plain.calls kj7 a0_0 a2 x11_7 t392 false _ A24.out).mono ?_); rintro e w' ⟨rfl, ⟨nd, rfl⟩⟩; refine ⟨_, rfl, ?_⟩) | ((with_reducible refine gate_callee (f := 71) rfl ?_); refine gl (some 57) rfl rfl Tryz.func71 rfl #[.int .i64 a0_0, .int .u64 a2, .int .u64 x11_7] rfl ?_; (with_reducible refine (postbagref04_narrow.calls kj7 a0_0 a2 x11_7 t394 false _ A27.out).mono ?_); rintro e w' ⟨rfl, ⟨nd, rfl⟩⟩; refine ⟨_, rfl, ?_⟩) | ((with_reducible refine gate_callee (f := 72) rfl ?_); refine gl (some 67) rfl rfl Tryz.func72 rfl #[.int .i64 a0_0, .int .u64 a2, .int .u64 a3] rfl ?_; (with_reducible refine (postbagref04_many.calls kj7 a0_0 a2 a3 t396 false _ A30.out).mono ?_); rintro e w' ⟨rfl, ⟨nd, rfl⟩⟩; refine ⟨_, rfl, ?_⟩))
           go_ret2
           exact ⟨fe, bs HB GE386⟩
 ·replace c6 := Bool.eq_false_iff.mpr c6
  subst c6
  rw [if_neg ff] at H
  simp only [Option.some.injEq, Prod.mk.injEq] at H
  obtain ⟨rfl, rfl⟩ := H
  go_enter Tryz.func36, Tryz.ntmps36
  go_wp2_with (first | ((with_reducible refine gate_dst (N := 4) rfl ?_); refine be 4 50 #[.int .i64 a0_0, .int .i64 a0_1, .int .i64 a0_2, .int .i64 a0_3, .int .i64 a0_4, .bool a0_5, .bool a0_6] ?_; intro gb386 hg w34 hbox hb; have BK386 := am hbox; have GW386 := bz HB hg; have GE386 := bz HB hg; replace HB := bn HB hb; clear hb hbox hg; obtain ⟨z35_0, z35_1, z35_2, z35_3, z35_4, z35_5, z35_6, f35_0, f35_1, f35_2, f35_3, f35_4, f35_5, f35_6⟩ := cf7 BK386) | ((with_reducible refine gate_callee (f := 68) rfl ?_); refine gl (some 15) rfl rfl Tryz.func68 rfl #[.agg #[.int .i64 a0_0, .int .i64 a0_1, .int .i64 a0_2, .int .i64 a0_3, .int .i64 a0_4, .bool a0_5, .bool a0_6]] rfl ?_; (with_reducible refine (postbagref02_Good.calls a0_0 a0_1 a0_2 a0_3 a0_4 a0_5 a0_6 false _ A5.out).mono ?_); rintro e w36 ⟨rfl, hb⟩; refine ⟨_, rfl, ?_⟩; replace BK386 := bk BK386 hb; replace HB := bns HB GE386 hb; (try clear hb); (try clear hb2); (try clear hk); (try clear hi)))
  go_ret2
  exact ⟨fe, bs HB GE386⟩
def postbagref04_Taken.f (a0_0 : Int) (a0_1 : Int) (a0_2 : Int) (a0_3 : Int) (a0_4 : Int) (a0_5 : Bool) (a0_6 : Bool) (a1 : Int) (a2 : Int) : Option (Bool) := (postbagref02_Good.f a0_0 a0_1 a0_2 a0_3 a0_4 a0_5 a0_6).bind fun t399 => (if t399 = true then (if a0_0 = 5 then (some (a1 == a2)) else (if a0_0 = 6 then (some (a1 != a2)) else (if a0_0 = 7 then ((postbagref04_less.f a1 a2).bind fun t400 => (some t400)) else (if a0_0 = 8 then ((postbagref04_less.f a1 a2).bind fun t401 => (some (!t401))) else (if a0_0 = 9 then (some (decide (a1 < a2))) else (if a0_0 = 10 then (some (decide (a1 ≥ a2))) else (some false))))))) else (some false))
set_option maxHeartbeats 8000000 in
set_option maxRecDepth 100000 in
theorem postbagref04_Taken.calls (a0_0 : Int) (a0_1 : Int) (a0_2 : Int) (a0_3 : Int) (a0_4 : Int) (a0_5 : Bool) (a0_6 : Bool) (a1 : Int) (a2 : Int) (r : Bool) (w : World) (h : postbagref04_Taken.f a0_0 a0_1 a0_2 a0_3 a0_4 a0_5 a0_6 a1 a2 = some r) :
  Calls Tryz.prog 37 #[.agg #[.int .i64 a0_0, .int .i64 a0_1, .int .i64 a0_2, .int .i64 a0_3, .int .i64 a0_4, .bool a0_5, .bool a0_6], .int .u64 a1, .int .u64 a2] w fun e w' => e = .returned (.bool r) ∧ Below w.heap.size w w' := by
 have hu50 := Tryz.underlying50
 have HB := am (Below.refl w.heap.size w)
 have H := h
 clear h
 unfold postbagref04_Taken.f at H
 obtain ⟨t399, A4, H⟩ := bam H
 try dsimp only at H
 by_cases c5 : t399 = true
 ·subst c5
  rw [if_pos rfl] at H
  by_cases c6 : a0_0 = 5
  ·rw [if_pos c6] at H
   obtain ⟨c6b0, c6b1⟩ := bqt c6
   clear c6
   obtain rfl := Option.some.inj H
   go_enter Tryz.func37, Tryz.ntmps37
   go_wp2_with (first | ((with_reducible refine gate_dst (N := 3) rfl ?_); refine be 3 50 #[.int .i64 a0_0, .int .i64 a0_1, .int .i64 a0_2, .int .i64 a0_3, .int .i64 a0_4, .bool a0_5, .bool a0_6] ?_; intro gb398 hg w7 hbox hb; have BK398 := am hbox; have GW398 := bz HB hg; have GE398 := bz HB hg; replace HB := bn HB hb; clear hb hbox hg; obtain ⟨z8_0, z8_1, z8_2, z8_3, z8_4, z8_5, z8_6, f8_0, f8_1, f8_2, f8_3, f8_4, f8_5, f8_6⟩ := cf7 BK398) | ((with_reducible refine gate_callee (f := 68) rfl ?_); refine gl (some 8) rfl rfl Tryz.func68 rfl #[.agg #[.int .i64 a0_0, .int .i64 a0_1, .int .i64 a0_2, .int .i64 a0_3, .int .i64 a0_4, .bool a0_5, .bool a0_6]] rfl ?_; (with_reducible refine (postbagref02_Good.calls a0_0 a0_1 a0_2 a0_3 a0_4 a0_5 a0_6 true _ A4.out).mono ?_); rintro e w9 ⟨rfl, hb⟩; refine ⟨_, rfl, ?_⟩; replace BK398 := bk BK398 hb; replace HB := bns HB GE398 hb; (try clear hb); (try clear hb2); (try clear hk); (try clear hi); obtain ⟨z10_0, z10_1, z10_2, z10_3, z10_4, z10_5, z10_6, f10_0, f10_1, f10_2, f10_3, f10_4, f10_5, f10_6⟩ := cf7 BK398))
   go_ret
   exact ⟨fe, bs HB GE398⟩
  ·rw [if_neg c6] at H
   obtain ⟨c6b0, c6b1⟩ := bqf c6
   by_cases c11 : a0_0 = 6
   ·rw [if_pos c11] at H
    obtain ⟨c11b0, c11b1⟩ := bqt c11
    clear c11
    obtain rfl := Option.some.inj H
    go_enter Tryz.func37, Tryz.ntmps37
    go_wp2_with (first | ((with_reducible refine gate_dst (N := 3) rfl ?_); refine be 3 50 #[.int .i64 a0_0, .int .i64 a0_1, .int .i64 a0_2, .int .i64 a0_3, .int .i64 a0_4, .bool a0_5, .bool a0_6] ?_; intro gb398 hg w12 hbox hb; have BK398 := am hbox; have GW398 := bz HB hg; have GE398 := bz HB hg; replace HB := bn HB hb; clear hb hbox hg; obtain ⟨z13_0, z13_1, z13_2, z13_3, z13_4, z13_5, z13_6, f13_0, f13_1, f13_2, f13_3, f13_4, f13_5, f13_6⟩ := cf7 BK398) | ((with_reducible refine gate_callee (f := 68) rfl ?_); refine gl (some 8) rfl rfl Tryz.func68 rfl #[.agg #[.int .i64 a0_0, .int .i64 a0_1, .int .i64 a0_2, .int .i64 a0_3, .int .i64 a0_4, .bool a0_5, .bool a0_6]] rfl ?_; (with_reducible refine (postbagref02_Good.calls a0_0 a0_1 a0_2 a0_3 a0_4 a0_5 a0_6 true _ A4.out).mono ?_); rintro e w14 ⟨rfl, hb⟩; refine ⟨_, rfl, ?_⟩; replace BK398 := bk BK398 hb; replace HB := bns HB GE398 hb; (try clear hb); (try clear hb2); (try clear hk); (try clear hi); obtain ⟨z15_0, z15_1, z15_2, z15_3, z15_4, z15_5, z15_6, f15_0, f15_1, f15_2, f15_3, f15_4, f15_5, f15_6⟩ := cf7 BK398))
    go_ret
    exact ⟨fe, bs HB GE398⟩
   ·rw [if_neg c11] at H
    obtain ⟨c11b0, c11b1⟩ := bqf c11
    by_cases c16 : a0_0 = 7
    ·rw [if_pos c16] at H
     obtain ⟨c16b0, c16b1⟩ := bqt c16
     clear c16
     replace H := Option.bind_eq_some_iff.mp H
     obtain ⟨t400, A170, H⟩ := H
     replace H : (some t400) = some r := H
     have A17 := am A170
     clear A170
     obtain rfl := Option.some.inj H
     go_enter Tryz.func37, Tryz.ntmps37
     go_wp2_with (first | ((with_reducible refine gate_dst (N := 3) rfl ?_); refine be 3 50 #[.int .i64 a0_0, .int .i64 a0_1, .int .i64 a0_2, .int .i64 a0_3, .int .i64 a0_4, .bool a0_5, .bool a0_6] ?_; intro gb398 hg w18 hbox hb; have BK398 := am hbox; have GW398 := bz HB hg; have GE398 := bz HB hg; replace HB := bn HB hb; clear hb hbox hg; obtain ⟨z19_0, z19_1, z19_2, z19_3, z19_4, z19_5, z19_6, f19_0, f19_1, f19_2, f19_3, f19_4, f19_5, f19_6⟩ := cf7 BK398) | ((with_reducible refine gate_callee (f := 68) rfl ?_); refine gl (some 8) rfl rfl Tryz.func68 rfl #[.agg #[.int .i64 a0_0, .int .i64 a0_1, .int .i64 a0_2, .int .i64 a0_3, .int .i64 a0_4, .bool a0_5, .bool a0_6]] rfl ?_; (with_reducible refine (postbagref02_Good.calls a0_0 a0_1 a0_2 a0_3 a0_4 a0_5 a0_6 true _ A4.out).mono ?_); rintro e w20 ⟨rfl, hb⟩; refine ⟨_, rfl, ?_⟩; replace BK398 := bk BK398 hb; replace HB := bns HB GE398 hb; (try clear hb); (try clear hb2); (try clear hk); (try clear hi); obtain ⟨z21_0, z21_1, z21_2, z21_3, z21_4, z21_5, z21_6, f21_0, f21_1, f21_2, f21_3, f21_4, f21_5, f21_6⟩ := cf7 BK398) | ((with_reducible refine gate_callee (f := 73) rfl ?_); refine gl (some 26) rfl rfl Tryz.func73 rfl #[.int .u64 a1, .int .u64 a2] rfl ?_; (with_reducible refine (postbagref04_less.calls a1 a2 t400 _ A17.out).mono ?_); rintro e w' ⟨rfl, ⟨nd, rfl⟩⟩; refine ⟨_, rfl, ?_⟩))
     go_ret
     exact ⟨fe, bs HB GE398⟩
    ·rw [if_neg c16] at H
     obtain ⟨c16b0, c16b1⟩ := bqf c16
     by_cases c22 : a0_0 = 8
     ·rw [if_pos c22] at H
      obtain ⟨c22b0, c22b1⟩ := bqt c22
      clear c22
      replace H := Option.bind_eq_some_iff.mp H
      obtain ⟨t401, A230, H⟩ := H
      replace H : (some (!t401)) = some r := H
      have A23 := am A230
      clear A230
      obtain rfl := Option.some.inj H
      go_enter Tryz.func37, Tryz.ntmps37
      go_wp2_with (first | ((with_reducible refine gate_dst (N := 3) rfl ?_); refine be 3 50 #[.int .i64 a0_0, .int .i64 a0_1, .int .i64 a0_2, .int .i64 a0_3, .int .i64 a0_4, .bool a0_5, .bool a0_6] ?_; intro gb398 hg w24 hbox hb; have BK398 := am hbox; have GW398 := bz HB hg; have GE398 := bz HB hg; replace HB := bn HB hb; clear hb hbox hg; obtain ⟨z25_0, z25_1, z25_2, z25_3, z25_4, z25_5, z25_6, f25_0, f25_1, f25_2, f25_3, f25_4, f25_5, f25_6⟩ := cf7 BK398) | ((with_reducible refine gate_callee (f := 68) rfl ?_); refine gl (some 8) rfl rfl Tryz.func68 rfl #[.agg #[.int .i64 a0_0, .int .i64 a0_1, .int .i64 a0_2, .int .i64 a0_3, .int .i64 a0_4, .bool a0_5, .bool a0_6]] rfl ?_; (with_reducible refine (postbagref02_Good.calls a0_0 a0_1 a0_2 a0_3 a0_4 a0_5 a0_6 true _ A4.out).mono ?_); rintro e w26 ⟨rfl, hb⟩; refine ⟨_, rfl, ?_⟩; replace BK398 := bk BK398 hb; replace HB := bns HB GE398 hb; (try clear hb); (try clear hb2); (try clear hk); (try clear hi); obtain ⟨z27_0, z27_1, z27_2, z27_3, z27_4, z27_5, z27_6, f27_0, f27_1, f27_2, f27_3, f27_4, f27_5, f27_6⟩ := cf7 BK398) | ((with_reducible refine gate_callee (f := 73) rfl ?_); refine gl (some 31) rfl rfl Tryz.func73 rfl #[.int .u64 a1, .int .u64 a2] rfl ?_; (with_reducible refine (postbagref04_less.calls a1 a2 t401 _ A23.out).mono ?_); rintro e w' ⟨rfl, ⟨nd, rfl⟩⟩; refine ⟨_, rfl, ?_⟩))
      go_ret
      exact ⟨fe, bs HB GE398⟩
     ·rw [if_neg c22] at H
      obtain ⟨c22b0, c22b1⟩ := bqf c22
      by_cases c28 : a0_0 = 9
      ·rw [if_pos c28] at H
       obtain ⟨c28b0, c28b1⟩ := bqt c28
       clear c28
       obtain rfl := Option.some.inj H
       go_enter Tryz.func37, Tryz.ntmps37
       go_wp2_with (first | ((with_reducible refine gate_dst (N := 3) rfl ?_); refine be 3 50 #[.int .i64 a0_0, .int .i64 a0_1, .int .i64 a0_2, .int .i64 a0_3, .int .i64 a0_4, .bool a0_5, .bool a0_6] ?_; intro gb398 hg w29 hbox hb; have BK398 := am hbox; have GW398 := bz HB hg; have GE398 := bz HB hg; replace HB := bn HB hb; clear hb hbox hg; obtain ⟨z30_0, z30_1, z30_2, z30_3, z30_4, z30_5, z30_6, f30_0, f30_1, f30_2, f30_3, f30_4, f30_5, f30_6⟩ := cf7 BK398) | ((with_reducible refine gate_callee (f := 68) rfl ?_); refine gl (some 8) rfl rfl Tryz.func68 rfl #[.agg #[.int .i64 a0_0, .int .i64 a0_1, .int .i64 a0_2, .int .i64 a0_3, .int .i64 a0_4, .bool a0_5, .bool a0_6]] rfl ?_; (with_reducible refine (postbagref02_Good.calls a0_0 a0_1 a0_2 a0_3 a0_4 a0_5 a0_6 true _ A4.out).mono ?_); rintro e w31 ⟨rfl, hb⟩; refine ⟨_, rfl, ?_⟩; replace BK398 := bk BK398 hb; replace HB := bns HB GE398 hb; (try clear hb); (try clear hb2); (try clear hk); (try clear hi); obtain ⟨z32_0, z32_1, z32_2, z32_3, z32_4, z32_5, z32_6, f32_0, f32_1, f32_2, f32_3, f32_4, f32_5, f32_6⟩ := cf7 BK398))
       go_ret
       exact ⟨fe, bs HB GE398⟩
      ·rw [if_neg c28] at H
       obtain ⟨c28b0, c28b1⟩ := bqf c28
       by_cases c33 : a0_0 = 10
       ·rw [if_pos c33] at H
        obtain ⟨c33b0, c33b1⟩ := bqt c33
        clear c33
        obtain rfl := Option.some.inj H
        go_enter Tryz.func37, Tryz.ntmps37
        go_wp2_with (first | ((with_reducible refine gate_dst (N := 3) rfl ?_); refine be 3 50 #[.int .i64 a0_0, .int .i64 a0_1, .int .i64 a0_2, .int .i64 a0_3, .int .i64 a0_4, .bool a0_5, .bool a0_6] ?_; intro gb398 hg w34 hbox hb; have BK398 := am hbox; have GW398 := bz HB hg; have GE398 := bz HB hg; replace HB := bn HB hb; clear hb hbox hg; obtain ⟨z35_0, z35_1, z35_2, z35_3, z35_4, z35_5, z35_6, f35_0, f35_1, f35_2, f35_3, f35_4, f35_5, f35_6⟩ := cf7 BK398) | ((with_reducible refine gate_callee (f := 68) rfl ?_); refine gl (some 8) rfl rfl Tryz.func68 rfl #[.agg #[.int .i64 a0_0, .int .i64 a0_1, .int .i64 a0_2, .int .i64 a0_3, .int .i64 a0_4, .bool a0_5, .bool a0_6]] rfl ?_; (with_reducible refine (postbagref02_Good.calls a0_0 a0_1 a0_2 a0_3 a0_4 a0_5 a0_6 true _ A4.out).mono ?_); rintro e w36 ⟨rfl, hb⟩; refine ⟨_, rfl, ?_⟩; replace BK398 := bk BK398 hb; replace HB := bns HB GE398 hb; (try clear hb); (try clear hb2); (try clear hk); (try clear hi); obtain ⟨z37_0, z37_1, z37_2, z37_3, z37_4, z37_5, z37_6, f37_0, f37_1, f37_2, f37_3, f37_4, f37_5, f37_6⟩ := cf7 BK398))
        go_ret
        exact ⟨fe, bs HB GE398⟩
       ·rw [if_neg c33] at H
        obtain ⟨c33b0, c33b1⟩ := bqf c33
        obtain rfl := Option.some.inj H
        go_enter Tryz.func37, Tryz.ntmps37
        go_wp2_with (first | ((with_reducible refine gate_dst (N := 3) rfl ?_); refine be 3 50 #[.int .i64 a0_0, .int .i64 a0_1, .int .i64 a0_2, .int .i64 a0_3, .int .i64 a0_4, .bool a0_5, .bool a0_6] ?_; intro gb398 hg w38 hbox hb; have BK398 := am hbox; have GW398 := bz HB hg; have GE398 := bz HB hg; replace HB := bn HB hb; clear hb hbox hg; obtain ⟨z39_0, z39_1, z39_2, z39_3, z39_4, z39_5, z39_6, f39_0, f39_1, f39_2, f39_3, f39_4, f39_5, f39_6⟩ := cf7 BK398) | ((with_reducible refine gate_callee (f := 68) rfl ?_); refine gl (some 8) rfl rfl Tryz.func68 rfl #[.agg #[.int .i64 a0_0, .int .i64 a0_1, .int .i64 a0_2, .int .i64 a0_3, .int .i64 a0_4, .bool a0_5, .bool a0_6]] rfl ?_; (with_reducible refine (postbagref02_Good.calls a0_0 a0_1 a0_2 a0_3 a0_4 a0_5 a0_6 true _ A4.out).mono ?_); rintro e w40 ⟨rfl, hb⟩; refine ⟨_, rfl, ?_⟩; replace BK398 := bk BK398 hb; replace HB := bns HB GE398 hb; (try clear hb); (try clear hb2); (try clear hk); (try clear hi); obtain ⟨z41_0, z41_1, z41_2, z41_3, z41_4, z41_5, z41_6, f41_0, f41_1, f41_2, f41_3, f41_4, f41_5, f41_6⟩ := cf7 BK398))
        go_ret
        exact ⟨fe, bs HB GE398⟩
 ·replace c5 := Bool.eq_false_iff.mpr c5
  subst c5
  rw [if_neg ff] at H
  obtain rfl := Option.some.inj H
  go_enter Tryz.func37, Tryz.ntmps37
  go_wp2_with (first | ((with_reducible refine gate_dst (N := 3) rfl ?_); refine be 3 50 #[.int .i64 a0_0, .int .i64 a0_1, .int .i64 a0_2, .int .i64 a0_3, .int .i64 a0_4, .bool a0_5, .bool a0_6] ?_; intro gb398 hg w42 hbox hb; have BK398 := am hbox; have GW398 := bz HB hg; have GE398 := bz HB hg; replace HB := bn HB hb; clear hb hbox hg; obtain ⟨z43_0, z43_1, z43_2, z43_3, z43_4, z43_5, z43_6, f43_0, f43_1, f43_2, f43_3, f43_4, f43_5, f43_6⟩ := cf7 BK398) | ((with_reducible refine gate_callee (f := 68) rfl ?_); refine gl (some 8) rfl rfl Tryz.func68 rfl #[.agg #[.int .i64 a0_0, .int .i64 a0_1, .int .i64 a0_2, .int .i64 a0_3, .int .i64 a0_4, .bool a0_5, .bool a0_6]] rfl ?_; (with_reducible refine (postbagref02_Good.calls a0_0 a0_1 a0_2 a0_3 a0_4 a0_5 a0_6 false _ A4.out).mono ?_); rintro e w44 ⟨rfl, hb⟩; refine ⟨_, rfl, ?_⟩; replace BK398 := bk BK398 hb; replace HB := bns HB GE398 hb; (try clear hb); (try clear hb2); (try clear hk); (try clear hi)))
  go_ret
  exact ⟨fe, bs HB GE398⟩
def postbagref04_Target.j0 : Nat → Int → Int → Bool → Int → Int → Int → Int → Int → Bool → Bool → Option (Int)
 | 0, _, _, _, _, _, _, _, _, _, _ => none
 | k + 1, x1, x2, x19, x403000, x403001, x403002, x403003, x403004, x403005, x403006 => if x19 = true then (some (IntKind.u64.wrap (x1 + (IntKind.u64.wrap (x403004))))) else (if x403000 = 4 then ((postbagref01_Place.f (IntKind.u64.wrap (x2 + (IntKind.u64.wrap (x403004)))) 0 1 0).bind fun t403 => (some t403)) else (some (IntKind.u64.wrap (x1 + 4))))
def postbagref04_Target.f (k : Nat) (a0_0 : Int) (a0_1 : Int) (a0_2 : Int) (a0_3 : Int) (a0_4 : Int) (a0_5 : Bool) (a0_6 : Bool) (a1 : Int) (a2 : Int) : Option (Int) := if a0_0 = 3 then (postbagref04_Target.j0 k a1 a2 true a0_0 a0_1 a0_2 a0_3 a0_4 a0_5 a0_6) else (if a0_0 ≥ 5 then (postbagref04_Target.j0 k a1 a2 (decide (a0_0 ≤ 10)) a0_0 a0_1 a0_2 a0_3 a0_4 a0_5 a0_6) else (postbagref04_Target.j0 k a1 a2 false a0_0 a0_1 a0_2 a0_3 a0_4 a0_5 a0_6))
theorem postbagref04_Target.mono_l : ∀ k, (∀ y0 y1 y2 y3 y4 y5 y6 y7 y8 y9, LeO (postbagref04_Target.j0 k y0 y1 y2 y3 y4 y5 y6 y7 y8 y9) (postbagref04_Target.j0 (k + 1) y0 y1 y2 y3 y4 y5 y6 y7 y8 y9))
 | 0 => fun _ _ _ _ _ _ _ _ _ _ r h => by simp [postbagref04_Target.j0] at h
 | k + 1 => by
  have ih0 := postbagref04_Target.mono_l k
  ·intro y0 y1 y2 y3 y4 y5 y6 y7 y8 y9
   unfold postbagref04_Target.j0
   exact leo
theorem postbagref04_Target.mono : ∀ a0 a1 a2 a3 a4 a5 a6 a7 a8 k, LeO (postbagref04_Target.f k a0 a1 a2 a3 a4 a5 a6 a7 a8) (postbagref04_Target.f (k + 1) a0 a1 a2 a3 a4 a5 a6 a7 a8) := by
 intro a0 a1 a2 a3 a4 a5 a6 a7 a8 k
 have ih0 := postbagref04_Target.mono_l k
 unfold postbagref04_Target.f
 exact leo
set_option maxHeartbeats 8000000 in
set_option maxRecDepth 100000 in
theorem postbagref04_Target.calls (k : Nat) (a0_0 : Int) (a0_1 : Int) (a0_2 : Int) (a0_3 : Int) (a0_4 : Int) (a0_5 : Bool) (a0_6 : Bool) (a1 : Int) (a2 : Int) (r : Int) (w : World) (h : postbagref04_Target.f k a0_0 a0_1 a0_2 a0_3 a0_4 a0_5 a0_6 a1 a2 = some r) :
  Calls Tryz.prog 38 #[.agg #[.int .i64 a0_0, .int .i64 a0_1, .int .i64 a0_2, .int .i64 a0_3, .int .i64 a0_4, .bool a0_5, .bool a0_6], .int .u64 a1, .int .u64 a2] w fun e w' => e = .returned (.int .u64 r) ∧ Below w.heap.size w w' := by
 have hu50 := Tryz.underlying50
 have HB := am (Below.refl w.heap.size w)
 have H := h
 clear h
 unfold postbagref04_Target.f at H
 have HC4 := am H
 clear H
 go_enter Tryz.func38, Tryz.ntmps38
 go_upto_region 1 with (first | ((with_reducible refine gate_dst (N := 3) rfl ?_); refine be 3 50 #[.int .i64 a0_0, .int .i64 a0_1, .int .i64 a0_2, .int .i64 a0_3, .int .i64 a0_4, .bool a0_5, .bool a0_6] ?_; intro gb402 hg w5 hbox hb; have BK402 := am hbox; have GW402 := bz HB hg; have GE402 := bz HB hg; replace HB := bn HB hb; clear hb hbox hg))
 (try simp only [Act.put, List.setIfInBounds_toArray, List.set_cons_zero, List.set_cons_succ])
 go_cut [19] (fun v19 wc => ∃ (kq : Nat) (x19_3 : Bool), v19 = .bool x19_3 ∧ Aside0 (postbagref04_Target.j0 kq a1 a2 x19_3 a0_0 a0_1 a0_2 a0_3 a0_4 a0_5 a0_6 = some r) ∧ Aside0 (kq ≤ k) ∧ Aside0 (wc.heap[gb402]? = some (.cells #[.int .i64 a0_0, .int .i64 a0_1, .int .i64 a0_2, .int .i64 a0_3, .int .i64 a0_4, .bool a0_5, .bool a0_6] 50 (0, 0))) ∧ Aside0 (Below w.heap.size w wc))
 case first =>
  have H := HC4.out
  clear HC4
  by_cases c6 : a0_0 = 3
  ·rw [if_pos c6] at H
   obtain ⟨c6b0, c6b1⟩ := bqt c6
   clear c6
   (first | rw [c6b0] | (simp only [i64_w, i32_w]; rw [c6b0]) | skip)
   have H' := am H
   clear H
   obtain ⟨z7_0, z7_1, z7_2, z7_3, z7_4, z7_5, z7_6, f7_0, f7_1, f7_2, f7_3, f7_4, f7_5, f7_6⟩ := cf7 BK402
   go_wp2
   go_meet
   case rel => exact ⟨_, (true), fr, H', ⟨om⟩, ⟨bu BK402⟩, ⟨bs HB GE402⟩⟩
  ·rw [if_neg c6] at H
   obtain ⟨c6b0, c6b1⟩ := bqf c6
   (first | rw [c6b0] | (simp only [i64_w, i32_w]; rw [c6b0]) | skip)
   by_cases c8 : a0_0 ≥ 5
   ·rw [if_pos c8] at H
    have c8b0 : decide (5 ≤ a0_0) = true := decide_eq_true c8
    clear c8
    have H' := am H
    clear H
    obtain ⟨z9_0, z9_1, z9_2, z9_3, z9_4, z9_5, z9_6, f9_0, f9_1, f9_2, f9_3, f9_4, f9_5, f9_6⟩ := cf7 BK402
    go_wp2
    go_meet
    case rel => exact ⟨_, (decide (a0_0 ≤ 10)), fr, H', ⟨om⟩, ⟨bu BK402⟩, ⟨bs HB GE402⟩⟩
   ·rw [if_neg c8] at H
    have c8b0 : decide (5 ≤ a0_0) = false := decide_eq_false c8
    clear c8
    have H' := am H
    clear H
    obtain ⟨z10_0, z10_1, z10_2, z10_3, z10_4, z10_5, z10_6, f10_0, f10_1, f10_2, f10_3, f10_4, f10_5, f10_6⟩ := cf7 BK402
    go_wp2
    go_meet
    case rel => exact ⟨_, (false), fr, H', ⟨om⟩, ⟨bu BK402⟩, ⟨bs HB GE402⟩⟩
 case rest =>
  clear HC4
  try clear p2
  try clear c3
  try clear c6
  try clear c6b0
  try clear c6b1
  try clear c8
  try clear c8b0
  try clear z10_0
  try clear z10_1
  try clear z10_2
  try clear z10_3
  try clear z10_4
  try clear z10_5
  try clear z10_6
  try clear z7_0
  try clear z7_1
  try clear z7_2
  try clear z7_3
  try clear z7_4
  try clear z7_5
  try clear z7_6
  try clear z9_0
  try clear z9_1
  try clear z9_2
  try clear z9_3
  try clear z9_4
  try clear z9_5
  try clear z9_6
  try clear f10_0
  try clear f10_1
  try clear f10_2
  try clear f10_3
  try clear f10_4
  try clear f10_5
  try clear f10_6
  try clear f7_0
  try clear f7_1
  try clear f7_2
  try clear f7_3
  try clear f7_4
  try clear f7_5
  try clear f7_6
  try clear f9_0
  try clear f9_1
  try clear f9_2
  try clear f9_3
  try clear f9_4
  try clear f9_5
  try clear f9_6
  obtain ⟨kq, x19_3, rfl, HA, HJ3, BK402, HB⟩ := hcut
  cases kq with
  | zero => exact absurd HA.out (by simp [postbagref04_Target.j0])
  | succ kj3 =>
   have H := HA.out
   clear HA
   simp only [postbagref04_Target.j0] at H
   by_cases c11 : x19_3 = true
   ·subst c11
    rw [if_pos rfl] at H
    obtain rfl := Option.some.inj H
    obtain ⟨z12_0, z12_1, z12_2, z12_3, z12_4, z12_5, z12_6, f12_0, f12_1, f12_2, f12_3, f12_4, f12_5, f12_6⟩ := cf7 BK402
    go_wp2
    go_ret
    exact ⟨fe, bs HB GE402⟩
   ·replace c11 := Bool.eq_false_iff.mpr c11
    subst c11
    rw [if_neg ff] at H
    by_cases c13 : a0_0 = 4
    ·rw [if_pos c13] at H
     obtain ⟨c13b0, c13b1⟩ := bqt c13
     clear c13
     replace H := Option.bind_eq_some_iff.mp H
     obtain ⟨t403, A140, H⟩ := H
     replace H : (some t403) = some r := H
     have A14 := am A140
     clear A140
     obtain rfl := Option.some.inj H
     obtain ⟨z15_0, z15_1, z15_2, z15_3, z15_4, z15_5, z15_6, f15_0, f15_1, f15_2, f15_3, f15_4, f15_5, f15_6⟩ := cf7 BK402
     go_wp2_with (first | ((with_reducible refine gate_callee (f := 74) rfl ?_); refine gl (some 33) rfl rfl Tryz.func74 rfl #[.int .u64 (IntKind.u64.wrap (a2 + (IntKind.u64.wrap (a0_4)))), .int .i64 0, .int .i64 1, .int .u64 0] rfl ?_; (with_reducible refine (postbagref01_Place.calls (IntKind.u64.wrap (a2 + (IntKind.u64.wrap (a0_4)))) 0 1 0 t403 _ A14.out).mono ?_); rintro e w' ⟨rfl, ⟨nd, rfl⟩⟩; refine ⟨_, rfl, ?_⟩))
     go_ret
     exact ⟨fe, bs HB GE402⟩
    ·rw [if_neg c13] at H
     obtain ⟨c13b0, c13b1⟩ := bqf c13
     obtain rfl := Option.some.inj H
     obtain ⟨z16_0, z16_1, z16_2, z16_3, z16_4, z16_5, z16_6, f16_0, f16_1, f16_2, f16_3, f16_4, f16_5, f16_6⟩ := cf7 BK402
     go_wp2
     go_ret
     exact ⟨fe, bs HB GE402⟩
-- NOT PRINTED: function 13 (postbagref06_Step)
-- NOT PRINTED: function 4 (postbaglaw06_HartSteps)
-- NOT PRINTED: function 8 (postbagref06_Run)
-- NOT PRINTED: function 3 (postbaglaw06_HartRuns)
end Go.Proofs.YtcjfafhbohkhlaaGreat.PAll
