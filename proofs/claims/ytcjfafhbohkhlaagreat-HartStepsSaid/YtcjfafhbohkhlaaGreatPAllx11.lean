/- DERIVED. Printed contracts of functions. -/
import Derived.Test.YtcjfafhbohkhlaaGreatPAllx0
import Derived.Test.YtcjfafhbohkhlaaGreatPAllx6
namespace Go.Proofs.YtcjfafhbohkhlaaGreat.PAll
open Go.RowKit Go.Proofs.YtcjfafhbohkhlaaGreatW.PrintWords Go.Proofs.YtcjfafhbohkhlaaGreatW.PrintLast Go.Proofs.YtcjfafhbohkhlaaGreatW.PrintMore Go.Proofs.YtcjfafhbohkhlaaGreat.M
attribute [local go_sem] max2_int min2_int max_two min_two max_three min_three max_four min_four
set_option linter.unusedVariables false
set_option linter.unusedSimpArgs false
def postbagref02_Row.f (a0 : Int) : Option (Int × Int × Int × Int) := some (formOf a0, codeOf a0, f3Of a0, f7Of a0)
set_option maxHeartbeats 8000000 in
set_option maxRecDepth 20000 in
theorem postbagref02_Row.c (a0 : Int) (w : World) :
  Calls Tryz.prog 69 #[.int .i64 a0] w fun e w' => e = .returned (.agg #[.int .i64 (formOf a0), .int .i64 (codeOf a0), .int .i64 (f3Of a0), .int .i64 (f7Of a0)]) ∧ Below w.heap.size w w' := by
 have hz : ∀ W, (zeroValue 128).run Tryz.prog W = .ok (.agg (Array.replicate 348 (.int .i64 0))) W := fun _ => by kernel_rfl
 go_enter Tryz.func69, Tryz.ntmps69
 iterate 11 go_step
 generalize (List.toArray (List.append _ _)) = OPS
 refine wpList_builds_take 88 _ _ _ { tmps := #[.int .i64 a0, undef, .pointer (some ⟨w.heap.size, 0, none⟩), undef, instRow 0, instRow 1, instRow 2, instRow 3, instRow 4, instRow 5, instRow 6, instRow 7, instRow 8, instRow 9, instRow 10, instRow 11, instRow 12, instRow 13, instRow 14, instRow 15, instRow 16, instRow 17, instRow 18, instRow 19, instRow 20, instRow 21, instRow 22, instRow 23, instRow 24, instRow 25, instRow 26, instRow 27, instRow 28, instRow 29, instRow 30, instRow 31, instRow 32, instRow 33, instRow 34, instRow 35, instRow 36, instRow 37, instRow 38, instRow 39, instRow 40, instRow 41, instRow 42, instRow 43, instRow 44, instRow 45, instRow 46, instRow 47, instRow 48, instRow 49, instRow 50, instRow 51, instRow 52, instRow 53, instRow 54, instRow 55, instRow 56, instRow 57, instRow 58, instRow 59, instRow 60, instRow 61, instRow 62, instRow 63, instRow 64, instRow 65, instRow 66, instRow 67, instRow 68, instRow 69, instRow 70, instRow 71, instRow 72, instRow 73, instRow 74, instRow 75, instRow 76, instRow 77, instRow 78, instRow 79, instRow 80, instRow 81, instRow 82, instRow 83, instRow 84, instRow 85, instRow 86, .agg instCells, undef, undef, undef, undef, undef, undef, undef, undef, undef, undef, undef], defers := [] } ?h rfl ?_
 case h => kernel_rfl
 simp only [List.append_eq, List.cons_append, List.nil_append, List.drop_succ_cons, List.drop_zero]
 go_step
 go_step
 go_step
 refine wpList_store_row rfl 128 _ _ rfl (w.heap.size + 1) instCells rfl rfl 128 (Array.replicate 348 (.int .i64 0)) ?hblk (by kernel_rfl) (by kernel_rfl) (by kernel_rfl) ?_
 case hblk =>
  have h := Blk.new (w.alloc (.cells #[.int .i64 0, .int .i64 0, .int .i64 0, .int .i64 0] 111)) (Array.replicate 348 (.int .i64 0)) 128
  rw [World.size_alloc] at h
  exact h
 generalize hX : World.setRow _ _ _ = X
 have B1 : Blk X w.heap.size #[.int .i64 0, .int .i64 0, .int .i64 0, .int .i64 0] 111 := by
  have h := ((Blk.new w #[.int .i64 0, .int .i64 0, .int .i64 0, .int .i64 0] 111).alloc (.cells instCells 128))
  rw [← World.setRow_alloc_new _ (Array.replicate 348 (.int .i64 0)), World.size_alloc] at h
  exact hX ▸ h
 have B2 : Blk X (w.heap.size + 1) instCells 128 := by
  have h := Blk.new (w.alloc (.cells #[.int .i64 0, .int .i64 0, .int .i64 0, .int .i64 0] 111)) instCells 128
  rw [← World.setRow_alloc_new _ (Array.replicate 348 (.int .i64 0)), World.size_alloc] at h
  exact hX ▸ h
 have hb : Below w.heap.size w X := by
  have h := ((Below.refl w.heap.size w).alloc (Nat.le_refl _) (.cells #[.int .i64 0, .int .i64 0, .int .i64 0, .int .i64 0] 111)).alloc (by simp) (.cells instCells 128)
  rw [← World.setRow_alloc_new _ (Array.replicate 348 (.int .i64 0)), World.size_alloc] at h
  exact hX ▸ h
 clear hX hz
 have c1 := B1.cell
 have f1 := B1.frozen
 have l1 := B1.lt
 by_cases hr : 1 ≤ a0 ∧ a0 ≤ 87
 ·have q : ∀ j, j < 4 → X.cell? ⟨w.heap.size + 1, (a0.toNat - 1) * 4 + j, none⟩ = some (.int .i64 (instNums.getD (4 * (a0 - 1).toNat + j) 0)) := by
   intro j hj
   have h := B2.cell ((a0.toNat - 1) * 4 + j)
   have e1 : a0.toNat - 1 = (a0 - 1).toNat := by omega
   rw [e1, Nat.mul_comm] at h ⊢
   rw [h]
   have hl : 4 * (a0 - 1).toNat + j < instNums.length := by
    have e : instNums.length = 348 := by decide +kernel
    omega
   simp only [instCells, List.getElem?_toArray, List.getElem?_map, List.getElem?_eq_getElem hl, List.getD_eq_getElem?_getD, Option.map_some, Option.getD_some]
  have q0 : X.cell? ⟨w.heap.size + 1, (a0.toNat - 1) * 4, none⟩ = some (.int .i64 (formOf a0)) := by rw [formOf, if_pos hr]; exact q 0 (by omega)
  have q1 : X.cell? ⟨w.heap.size + 1, (a0.toNat - 1) * 4 + 1, none⟩ = some (.int .i64 (codeOf a0)) := by rw [codeOf, if_pos hr]; exact q 1 (by omega)
  have q2 : X.cell? ⟨w.heap.size + 1, (a0.toNat - 1) * 4 + 2, none⟩ = some (.int .i64 (f3Of a0)) := by rw [f3Of, if_pos hr]; exact q 2 (by omega)
  have q3 : X.cell? ⟨w.heap.size + 1, (a0.toNat - 1) * 4 + 3, none⟩ = some (.int .i64 (f7Of a0)) := by rw [f7Of, if_pos hr]; exact q 3 (by omega)
  clear q B2
  have hb := Lib.hid hb
  obtain ⟨hr1, hr2⟩ := hr
  go_wp2
  (try simp only [Exit.inBlock, Exit.then])
  generalize hY : World.setCell _ _ _ = Y
  have BY : Blk Y w.heap.size #[.int .i64 (formOf a0), .int .i64 (codeOf a0), .int .i64 (f3Of a0), .int .i64 (f7Of a0)] 111 := by
   have h := (((B1.set 0 (.int .i64 (formOf a0))).set 1 (.int .i64 (codeOf a0))).set 2 (.int .i64 (f3Of a0))).set 3 (.int .i64 (f7Of a0))
   rw [← hY]
   simpa using h
  have hbY : Below w.heap.size w Y := by
   rw [← hY]
   have hb := hb.out
   go_grown
  have cY := BY.cell
  refine bodyPost_ret (v := .agg #[.int .i64 (formOf a0), .int .i64 (codeOf a0), .int .i64 (f3Of a0), .int .i64 (f7Of a0)]) (by simp [results, Tryz.results69, go_sem, cY]) rfl ?_
  exact ⟨rfl, hbY⟩
 ·clear B2
  have z1 : formOf a0 = 0 := by rw [formOf, if_neg hr]
  have z2 : codeOf a0 = 0 := by rw [codeOf, if_neg hr]
  have z3 : f3Of a0 = 0 := by rw [f3Of, if_neg hr]
  have z4 : f7Of a0 = 0 := by rw [f7Of, if_neg hr]
  have z := Lib.hid (And.intro z1 (And.intro z2 (And.intro z3 z4)))
  clear z1 z2 z3 z4
  have hb := Lib.hid hb
  go_wp2
  all_goals (
   (try simp only [Exit.inBlock, Exit.then])
   generalize hY : World.setCell _ _ _ = Y
   have BY : Blk Y w.heap.size #[.int .i64 0, .int .i64 0, .int .i64 0, .int .i64 0] 111 := by
    have h := (((B1.set 0 (.int .i64 0)).set 1 (.int .i64 0)).set 2 (.int .i64 0)).set 3 (.int .i64 0)
    rw [← hY]
    simpa using h
   have hbY : Below w.heap.size w Y := by
    rw [← hY]
    have hb := hb.out
    go_grown
   have cY := BY.cell
   refine bodyPost_ret (v := .agg #[.int .i64 0, .int .i64 0, .int .i64 0, .int .i64 0]) (by simp [results, Tryz.results69, go_sem, cY]) rfl ?_
   obtain ⟨z1, z2, z3, z4⟩ := z.out
   rw [z1, z2, z3, z4]
   exact ⟨rfl, hbY⟩)
theorem postbagref02_Row.calls (a0 : Int) (r1 : Int) (r2 : Int) (r3 : Int) (r4 : Int) (w : World) (h : postbagref02_Row.f a0 = some (r1, r2, r3, r4)) :
  Calls Tryz.prog 69 #[.int .i64 a0] w fun e w' => e = .returned (.agg #[.int .i64 r1, .int .i64 r2, .int .i64 r3, .int .i64 r4]) ∧ Below w.heap.size w w' := by
 obtain ⟨rfl, rfl, rfl, rfl⟩ : formOf a0 = r1 ∧ codeOf a0 = r2 ∧ f3Of a0 = r3 ∧ f7Of a0 = r4 := by simpa only [postbagref02_Row.f, Option.some.injEq, Prod.mk.injEq] using h
 exact postbagref02_Row.c a0 w
def postbagref02_has.f (a0 : Int) : Option (Bool × Bool × Bool × Bool × Bool) := some (hasRd a0, hasRs1 a0, hasRs2 a0, hasImm a0, hasAq a0)
theorem bools5 {a b c d e a' b' c' d' e' : Bool} (h1 : a = a') (h2 : b = b') (h3 : c = c') (h4 : d = d') (h5 : e = e') : Ending.returned (.agg #[.bool a, .bool b, .bool c, .bool d, .bool e]) = Ending.returned (.agg #[.bool a', .bool b', .bool c', .bool d', .bool e']) := by subst_vars; rfl
set_option maxHeartbeats 4000000 in
theorem postbagref02_has.c (a0 : Int) (w : World) :
  Calls Tryz.prog 92 #[.int .i64 a0] w fun e w' => e = .returned (.agg #[.bool (hasRd a0), .bool (hasRs1 a0), .bool (hasRs2 a0), .bool (hasImm a0), .bool (hasAq a0)]) ∧ Below w.heap.size w w' := by
 go_enter Tryz.func92, Tryz.ntmps92
 go_wp2
 all_goals go_returns
 all_goals refine ⟨?_, by go_grown⟩
 all_goals refine bools5 ?_ ?_ ?_ ?_ ?_
 all_goals simp only [beq_iff_eq, beq_eq_false_iff_ne, ne_eq, hasRd, hasRs1, hasRs2, hasImm, hasAq] at *
 all_goals (first | (symm; apply decide_eq_true; omega) | (symm; apply decide_eq_false; omega))
theorem postbagref02_has.calls (a0 : Int) (r1 r2 r3 r4 r5 : Bool) (w : World) (h : postbagref02_has.f a0 = some (r1, r2, r3, r4, r5)) :
  Calls Tryz.prog 92 #[.int .i64 a0] w fun e w' => e = .returned (.agg #[.bool r1, .bool r2, .bool r3, .bool r4, .bool r5]) ∧ Below w.heap.size w w' := by
 obtain ⟨rfl, rfl, rfl, rfl, rfl⟩ : hasRd a0 = r1 ∧ hasRs1 a0 = r2 ∧ hasRs2 a0 = r3 ∧ hasImm a0 = r4 ∧ hasAq a0 = r5 := by simpa only [postbagref02_has.f, Option.some.injEq, Prod.mk.injEq] using h
 exact postbagref02_has.c a0 w
mutual
def postbagref01_Bit0.j0 : Nat → Int → Int → Bool → Option (Int)
 | 0, _, _, _ => none
 | k + 1, x0, x1, x11 => if x11 = true then (some 0) else (postbagref01_Bit0.l0 k x0 x1 0)
def postbagref01_Bit0.l0 : Nat → Int → Int → Int → Option (Int)
 | 0, _, _, _ => none
 | k + 1, x0, x1, x5 => if x5 < x1 then (postbagref01_Bit0.l0 k (IntKind.u64.wrap (Int.tdiv x0 2)) x1 (wrap64 (x5 + 1))) else (some (Int.tmod x0 2))
end
def postbagref01_Bit0.f (k : Nat) (a0 : Int) (a1 : Int) : Option (Int) := if a1 < 0 then (postbagref01_Bit0.j0 k a0 a1 true) else (postbagref01_Bit0.j0 k a0 a1 (decide (a1 > 63)))
theorem postbagref01_Bit0.mono_l : ∀ k, (∀ y0 y1 y2, LeO (postbagref01_Bit0.j0 k y0 y1 y2) (postbagref01_Bit0.j0 (k + 1) y0 y1 y2)) ∧ (∀ y0 y1 y2, LeO (postbagref01_Bit0.l0 k y0 y1 y2) (postbagref01_Bit0.l0 (k + 1) y0 y1 y2))
 | 0 => ⟨fun _ _ _ r h => by simp [postbagref01_Bit0.j0] at h, fun _ _ _ r h => by simp [postbagref01_Bit0.l0] at h⟩
 | k + 1 => by
  obtain ⟨ih0, ih1⟩ := postbagref01_Bit0.mono_l k
  refine ⟨?_, ?_⟩
  ·intro y0 y1 y2
   unfold postbagref01_Bit0.j0
   exact leo
  ·intro y0 y1 y2
   unfold postbagref01_Bit0.l0
   exact leo
theorem postbagref01_Bit0.mono : ∀ a0 a1 k, LeO (postbagref01_Bit0.f k a0 a1) (postbagref01_Bit0.f (k + 1) a0 a1) := by
 intro a0 a1 k
 obtain ⟨ih0, ih1⟩ := postbagref01_Bit0.mono_l k
 unfold postbagref01_Bit0.f
 exact leo
set_option maxHeartbeats 8000000 in
set_option maxRecDepth 100000 in
theorem postbagref01_Bit0.calls (k : Nat) (a0 : Int) (a1 : Int) (r : Int) (w : World) (h : postbagref01_Bit0.f k a0 a1 = some r) :
  Calls Tryz.prog 103 #[.int .u64 a0, .int .i64 a1] w fun e w' => e = .returned (.int .u64 r) ∧ Drawn0 w w' := by
 have H := h
 clear h
 unfold postbagref01_Bit0.f at H
 have HC3 := am H
 clear H
 go_enter Tryz.func103, Tryz.ntmps103
 go_upto_region 1 with (fail)
 go_cut [11] (fun v11 wc => ∃ (kq : Nat) (x11_2 : Bool), v11 = .bool x11_2 ∧ Aside0 (postbagref01_Bit0.j0 kq a0 a1 x11_2 = some r) ∧ Aside0 (kq ≤ k) ∧ Drawn0 w wc)
 case first =>
  have H := HC3.out
  clear HC3
  by_cases c4 : a1 < 0
  ·rw [if_pos c4] at H
   have c4b0 : decide (a1 < 0) = true := decide_eq_true c4
   clear c4
   (first | rw [c4b0] | (simp only [i64_w, i32_w]; rw [c4b0]) | skip)
   have H' := am H
   clear H
   go_wp2
   go_meet
   case rel => exact ⟨_, (true), fr, H', ⟨om⟩, dd⟩
  ·rw [if_neg c4] at H
   have c4b0 : decide (a1 < 0) = false := decide_eq_false c4
   clear c4
   (first | rw [c4b0] | (simp only [i64_w, i32_w]; rw [c4b0]) | skip)
   have H' := am H
   clear H
   go_wp2
   go_meet
   case rel => exact ⟨_, (decide (a1 > 63)), fr, H', ⟨om⟩, dd⟩
 case rest =>
  clear HC3
  try clear c1
  try clear p2
  try clear c4
  try clear c4b0
  obtain ⟨kq, x11_2, rfl, HA, HJ2, ⟨mc2, rfl⟩⟩ := hcut
  cases kq with
  | zero => exact absurd HA.out (by simp [postbagref01_Bit0.j0])
  | succ kj2 =>
   have H := HA.out
   clear HA
   simp only [postbagref01_Bit0.j0] at H
   by_cases c5 : x11_2 = true
   ·subst c5
    rw [if_pos rfl] at H
    obtain rfl := Option.some.inj H
    go_wp2
    go_ret
    exact fd
   ·replace c5 := Bool.eq_false_iff.mpr c5
    subst c5
    rw [if_neg ff] at H
    have H' := am H
    clear H
    go_wp2
    go_loopg [0, 5] kj2 (fun kq v0 v5 w' => ∃ (x0_2 : Int) (x5_2 : Int), v0 = .int .u64 x0_2 ∧ v5 = .int .i64 x5_2 ∧ Aside0 (postbagref01_Bit0.l0 kq x0_2 a1 x5_2 = some r) ∧ Aside0 (kq ≤ kj2) ∧ Drawn0 w w')
    case atStart => exact ⟨(a0), (0), fr, fr, H', ⟨Nat.le_refl _⟩, dd⟩
    case round =>
     clear H'
     try clear c1
     try clear c2
     try clear p2
     try clear c4
     try clear c4b0
     try clear c5
     try clear p2
     obtain ⟨x0_2, x5_2, rfl, rfl, HA, HK2, ⟨m2, rfl⟩⟩ := hrel
     cases gk with
     | zero => exact absurd HA.out (by simp [postbagref01_Bit0.l0])
     | succ k2 =>
      have H := HA.out
      clear HA
      simp only [postbagref01_Bit0.l0] at H
      by_cases c6 : x5_2 < a1
      ·rw [if_pos c6] at H
       have c6b0 : decide (x5_2 < a1) = true := decide_eq_true c6
       clear c6
       have H' := am H
       clear H
       go_wp2
       go_roundg k2
       case measure => have := HJ2.out; have := HK2.out; omega
       case rel => exact ⟨(IntKind.u64.wrap (Int.tdiv x0_2 2)), (wrap64 (x5_2 + 1)), fr, fr, H', ⟨by have := HJ2.out; have := HK2.out; omega⟩, dd⟩
      ·rw [if_neg c6] at H
       have c6b0 : decide (x5_2 < a1) = false := decide_eq_false c6
       clear c6
       obtain rfl := Option.some.inj H
       go_wp2
       go_ret
       exact fd
def postbagref01_Bit.f (a0 : Int) (a1 : Int) : Option (Int) := if U64 a0 then some (bitOf a0 a1) else none
theorem postbagref01_Bit.loop (d : Nat) : ∀ (k : Nat) (x i j : Int), U64 x → 0 ≤ i → j ≤ 63 → j - i = d → d < k → postbagref01_Bit0.l0 k x j i = some (x / 2 ^ d % 2) := by
 induction d with
 | zero =>
  intro k x i j hx h0 h1 hd hk
  obtain ⟨k, rfl⟩ : ∃ m, k = m + 1 := ⟨k - 1, by omega⟩
  simp only [postbagref01_Bit0.l0]
  rw [if_neg (by omega), Int.tmod_eq_emod_of_nonneg hx.1, Int.pow_zero, Int.ediv_one]
 | succ d ih =>
  intro k x i j hx h0 h1 hd hk
  obtain ⟨k, rfl⟩ : ∃ m, k = m + 1 := ⟨k - 1, by omega⟩
  simp only [postbagref01_Bit0.l0]
  have hx2 : U64 (x / 2) := by have := hx; unfold U64 at *; omega
  rw [if_pos (by omega), Int.tdiv_eq_ediv_of_nonneg hx.1, hx2.wrap_eq, I64.wrap_eq (by unfold I64; omega), ih k _ _ _ hx2 (by omega) h1 (by omega) (by omega), Int.ediv_ediv_of_nonneg (by omega), Int.pow_succ, Int.mul_comm]
theorem postbagref01_Bit.spec (a0 a1 r : Int) (h : postbagref01_Bit.f a0 a1 = some r) : ∃ k, postbagref01_Bit0.f k a0 a1 = some r := by
 unfold postbagref01_Bit.f at h
 by_cases hu : U64 a0
 ·rw [if_pos hu] at h
  obtain rfl := Option.some.inj h
  refine ⟨a1.toNat + 3, ?_⟩
  unfold postbagref01_Bit0.f bitOf
  by_cases h1 : a1 < 0
  ·rw [if_pos h1, if_pos (Or.inl h1)]; simp only [postbagref01_Bit0.j0, if_true]
  ·rw [if_neg h1]
   by_cases h2 : a1 > 63
   ·rw [if_pos (Or.inr h2), decide_eq_true h2]; simp only [postbagref01_Bit0.j0, if_true]
   ·rw [if_neg (by omega), decide_eq_false h2]
    simp only [postbagref01_Bit0.j0]
    rw [if_neg (by decide), postbagref01_Bit.loop a1.toNat _ _ _ _ hu (by omega) (by omega) (by omega) (by omega)]
 ·rw [if_neg hu] at h; exact absurd h (by simp)
theorem postbagref01_Bit.eq {a0 : Int} (h : U64 a0) (a1 : Int) : postbagref01_Bit.f a0 a1 = some (bitOf a0 a1) := if_pos h
theorem postbagref01_Bit.calls (a0 : Int) (a1 : Int) (r : Int) (w : World) (h : postbagref01_Bit.f a0 a1 = some r) :
  Calls Tryz.prog 103 #[.int .u64 a0, .int .i64 a1] w fun e w' => e = .returned (.int .u64 r) ∧ Drawn0 w w' := by
 obtain ⟨k, hk⟩ := postbagref01_Bit.spec a0 a1 r h
 exact postbagref01_Bit0.calls k a0 a1 r w hk
def postbagref01_power0.l0 : Nat → Int → Int → Int → Option (Int)
 | 0, _, _, _ => none
 | k + 1, x0, x3, x4 => if x4 < x0 then (if x4 < 64 then (postbagref01_power0.l0 k x0 (IntKind.u64.wrap (2 * x3)) (wrap64 (x4 + 1))) else (some x3)) else (some x3)
def postbagref01_power0.f (k : Nat) (a0 : Int) : Option (Int) := postbagref01_power0.l0 k a0 1 0
theorem postbagref01_power0.mono_l : ∀ k, (∀ y0 y1 y2, LeO (postbagref01_power0.l0 k y0 y1 y2) (postbagref01_power0.l0 (k + 1) y0 y1 y2))
 | 0 => fun _ _ _ r h => by simp [postbagref01_power0.l0] at h
 | k + 1 => by
  have ih0 := postbagref01_power0.mono_l k
  ·intro y0 y1 y2
   unfold postbagref01_power0.l0
   exact leo
theorem postbagref01_power0.mono : ∀ a0 k, LeO (postbagref01_power0.f k a0) (postbagref01_power0.f (k + 1) a0) := by
 intro a0 k
 have ih0 := postbagref01_power0.mono_l k
 unfold postbagref01_power0.f
 exact leo
set_option maxHeartbeats 8000000 in
set_option maxRecDepth 100000 in
theorem postbagref01_power0.calls (k : Nat) (a0 : Int) (r : Int) (w : World) (h : postbagref01_power0.f k a0 = some r) :
  Calls Tryz.prog 111 #[.int .i64 a0] w fun e w' => e = .returned (.int .u64 r) ∧ Drawn0 w w' := by
 have H : (postbagref01_power0.l0 k a0 1 0) = some r := h
 clear h
 have H' := am H
 clear H
 go_enter Tryz.func111, Tryz.ntmps111
 go_wp2
 go_loopg [3, 4] k (fun kq v3 v4 w' => ∃ (x3_1 : Int) (x4_1 : Int), v3 = .int .u64 x3_1 ∧ v4 = .int .i64 x4_1 ∧ Aside0 (postbagref01_power0.l0 kq a0 x3_1 x4_1 = some r) ∧ Aside0 (kq ≤ k) ∧ Drawn0 w w')
 case atStart => exact ⟨(1), (0), fr, fr, H', ⟨Nat.le_refl _⟩, dd⟩
 case round =>
  clear H'
  try clear c1
  obtain ⟨x3_1, x4_1, rfl, rfl, HA, HK1, ⟨m1, rfl⟩⟩ := hrel
  cases gk with
  | zero => exact absurd HA.out (by simp [postbagref01_power0.l0])
  | succ k1 =>
   have H := HA.out
   clear HA
   simp only [postbagref01_power0.l0] at H
   by_cases c2 : x4_1 < a0
   ·rw [if_pos c2] at H
    have c2b0 : decide (x4_1 < a0) = true := decide_eq_true c2
    clear c2
    by_cases c3 : x4_1 < 64
    ·rw [if_pos c3] at H
     have c3b0 : decide (x4_1 < 64) = true := decide_eq_true c3
     clear c3
     have H' := am H
     clear H
     go_wp2
     go_roundg k1
     case measure => have := HK1.out; omega
     case rel => exact ⟨(IntKind.u64.wrap (2 * x3_1)), (wrap64 (x4_1 + 1)), fr, fr, H', ⟨by have := HK1.out; omega⟩, dd⟩
    ·rw [if_neg c3] at H
     have c3b0 : decide (x4_1 < 64) = false := decide_eq_false c3
     clear c3
     obtain rfl := Option.some.inj H
     go_wp2
     go_ret
     exact fd
   ·rw [if_neg c2] at H
    have c2b0 : decide (x4_1 < a0) = false := decide_eq_false c2
    clear c2
    obtain rfl := Option.some.inj H
    go_wp2
    go_ret
    exact fd
def postbagref01_power.f (a0 : Int) : Option (Int) := some (powOf a0)
theorem postbagref01_power.loop (d : Nat) : ∀ (k : Nat) (n : Int) (i : Nat), i + d = 64 → d < k → (i : Int) ≤ n →
  postbagref01_power0.l0 k n (2 ^ i % 18446744073709551616) i = some (powOf n) := by
 induction d with
 | zero =>
  intro k n i hi hk hn
  obtain ⟨k, rfl⟩ : ∃ m, k = m + 1 := ⟨k - 1, by omega⟩
  obtain rfl : i = 64 := by omega
  simp only [postbagref01_power0.l0, powOf]
  rw [if_neg (show ¬ n < 0 by omega), if_pos (show n ≥ 64 by omega)]
  by_cases h : ((64 : Nat) : Int) < n
  ·rw [if_pos h, if_neg (by omega)]; rfl
  ·rw [if_neg h]; rfl
 | succ d ih =>
  intro k n i hi hk hn
  obtain ⟨k, rfl⟩ : ∃ m, k = m + 1 := ⟨k - 1, by omega⟩
  simp only [postbagref01_power0.l0]
  by_cases h : (i : Int) < n
  ·rw [if_pos h, if_pos (by omega), I64.wrap_eq (by unfold I64; omega), u64w, ← ih k n (i + 1) (by omega) (by omega) (by omega)]
   congr 1
   rw [Int.pow_succ, Int.mul_emod, Int.emod_emod_of_dvd _ (Int.dvd_refl _), ← Int.mul_emod, Int.mul_comm]
  ·rw [if_neg h]
   unfold powOf
   rw [if_neg (by omega), if_neg (by omega), show n.toNat = i from by omega, Int.emod_eq_of_lt (Int.le_of_lt (ipos i))]
   exact Int.lt_of_le_of_lt (ipow_le i 63 (by omega)) (by decide)
theorem postbagref01_power.spec (a0 r : Int) (h : postbagref01_power.f a0 = some r) : ∃ k, postbagref01_power0.f k a0 = some r := by
 refine ⟨66, ?_⟩
 rw [← h]
 unfold postbagref01_power.f postbagref01_power0.f
 by_cases h0 : a0 < 0
 ·rw [postbagref01_power0.l0, if_neg (by omega), powOf, if_pos h0]
 ·exact postbagref01_power.loop 64 66 a0 0 (by omega) (by omega) (by omega)
theorem postbagref01_power.calls (a0 : Int) (r : Int) (w : World) (h : postbagref01_power.f a0 = some r) :
  Calls Tryz.prog 111 #[.int .i64 a0] w fun e w' => e = .returned (.int .u64 r) ∧ Drawn0 w w' := by
 obtain ⟨k, hk⟩ := postbagref01_power.spec a0 r h
 exact postbagref01_power0.calls k a0 r w hk
mutual
def postbagref01_Field0.j0 : Nat → Int → Int → Int → Bool → Option (Int)
 | 0, _, _, _, _ => none
 | k + 1, x0, x1, x2, x18 => if x18 = true then (some 0) else (postbagref01_Field0.l0 k x0 x1 x2 0 0)
def postbagref01_Field0.l0 : Nat → Int → Int → Int → Int → Int → Option (Int)
 | 0, _, _, _, _, _ => none
 | k + 1, x0, x1, x2, x7, x8 => if x8 < x2 then (postbagref01_Field0.j2 k x0 x1 x2 x7 x8 (decide (x8 < (wrap64 (64 - x1))))) else (postbagref01_Field0.j2 k x0 x1 x2 x7 x8 false)
def postbagref01_Field0.j2 : Nat → Int → Int → Int → Int → Int → Bool → Option (Int)
 | 0, _, _, _, _, _, _ => none
 | k + 1, x0, x1, x2, x7, x8, x27 => if x27 = true then ((postbagref01_Bit.f x0 (wrap64 (x1 + x8))).bind fun t224 => ((postbagref01_power.f x8).bind fun t225 => (postbagref01_Field0.l0 k x0 x1 x2 (IntKind.u64.wrap (x7 + (IntKind.u64.wrap (t224 * t225)))) (wrap64 (x8 + 1))))) else (some x7)
end
def postbagref01_Field0.f (k : Nat) (a0 : Int) (a1 : Int) (a2 : Int) : Option (Int) := if a1 < 0 then (postbagref01_Field0.j0 k a0 a1 a2 true) else (if a1 > 63 then (postbagref01_Field0.j0 k a0 a1 a2 true) else (postbagref01_Field0.j0 k a0 a1 a2 (decide (a2 < 1))))
theorem postbagref01_Field0.mono_l : ∀ k, (∀ y0 y1 y2 y3, LeO (postbagref01_Field0.j0 k y0 y1 y2 y3) (postbagref01_Field0.j0 (k + 1) y0 y1 y2 y3)) ∧ (∀ y0 y1 y2 y3 y4, LeO (postbagref01_Field0.l0 k y0 y1 y2 y3 y4) (postbagref01_Field0.l0 (k + 1) y0 y1 y2 y3 y4)) ∧ (∀ y0 y1 y2 y3 y4 y5, LeO (postbagref01_Field0.j2 k y0 y1 y2 y3 y4 y5) (postbagref01_Field0.j2 (k + 1) y0 y1 y2 y3 y4 y5))
 | 0 => ⟨fun _ _ _ _ r h => by simp [postbagref01_Field0.j0] at h, fun _ _ _ _ _ r h => by simp [postbagref01_Field0.l0] at h, fun _ _ _ _ _ _ r h => by simp [postbagref01_Field0.j2] at h⟩
 | k + 1 => by
  obtain ⟨ih0, ih1, ih2⟩ := postbagref01_Field0.mono_l k
  refine ⟨?_, ?_, ?_⟩
  ·intro y0 y1 y2 y3
   unfold postbagref01_Field0.j0
   exact leo
  ·intro y0 y1 y2 y3 y4
   unfold postbagref01_Field0.l0
   exact leo
  ·intro y0 y1 y2 y3 y4 y5
   unfold postbagref01_Field0.j2
   exact leo
theorem postbagref01_Field0.mono : ∀ a0 a1 a2 k, LeO (postbagref01_Field0.f k a0 a1 a2) (postbagref01_Field0.f (k + 1) a0 a1 a2) := by
 intro a0 a1 a2 k
 obtain ⟨ih0, ih1, ih2⟩ := postbagref01_Field0.mono_l k
 unfold postbagref01_Field0.f
 exact leo
set_option maxHeartbeats 8000000 in
set_option maxRecDepth 100000 in
theorem postbagref01_Field0.calls (k : Nat) (a0 : Int) (a1 : Int) (a2 : Int) (r : Int) (w : World) (h : postbagref01_Field0.f k a0 a1 a2 = some r) :
  Calls Tryz.prog 98 #[.int .u64 a0, .int .i64 a1, .int .i64 a2] w fun e w' => e = .returned (.int .u64 r) ∧ Drawn0 w w' := by
 have H := h
 clear h
 unfold postbagref01_Field0.f at H
 have HC4 := am H
 clear H
 go_enter Tryz.func98, Tryz.ntmps98
 go_upto_region 1 with (fail)
 go_cut [18] (fun v18 wc => ∃ (kq : Nat) (x18_3 : Bool), v18 = .bool x18_3 ∧ Aside0 (postbagref01_Field0.j0 kq a0 a1 a2 x18_3 = some r) ∧ Aside0 (kq ≤ k) ∧ Drawn0 w wc)
 case first =>
  have H := HC4.out
  clear HC4
  by_cases c5 : a1 < 0
  ·rw [if_pos c5] at H
   have c5b0 : decide (a1 < 0) = true := decide_eq_true c5
   clear c5
   (first | rw [c5b0] | (simp only [i64_w, i32_w]; rw [c5b0]) | skip)
   have H' := am H
   clear H
   go_wp2
   go_meet
   case rel => exact ⟨_, (true), fr, H', ⟨om⟩, dd⟩
  ·rw [if_neg c5] at H
   have c5b0 : decide (a1 < 0) = false := decide_eq_false c5
   clear c5
   (first | rw [c5b0] | (simp only [i64_w, i32_w]; rw [c5b0]) | skip)
   by_cases c6 : a1 > 63
   ·rw [if_pos c6] at H
    have c6b0 : decide (63 < a1) = true := decide_eq_true c6
    clear c6
    have H' := am H
    clear H
    go_wp2
    go_meet
    case rel => exact ⟨_, (true), fr, H', ⟨om⟩, dd⟩
   ·rw [if_neg c6] at H
    have c6b0 : decide (63 < a1) = false := decide_eq_false c6
    clear c6
    have H' := am H
    clear H
    go_wp2
    go_meet
    case rel => exact ⟨_, (decide (a2 < 1)), fr, H', ⟨om⟩, dd⟩
 case rest =>
  clear HC4
  try clear p2
  try clear c5
  try clear c5b0
  try clear c6
  try clear c6b0
  obtain ⟨kq, x18_3, rfl, HA, HJ3, ⟨mc3, rfl⟩⟩ := hcut
  cases kq with
  | zero => exact absurd HA.out (by simp [postbagref01_Field0.j0])
  | succ kj3 =>
   have H := HA.out
   clear HA
   simp only [postbagref01_Field0.j0] at H
   by_cases c7 : x18_3 = true
   ·subst c7
    rw [if_pos rfl] at H
    obtain rfl := Option.some.inj H
    go_wp2
    go_ret
    exact fd
   ·replace c7 := Bool.eq_false_iff.mpr c7
    subst c7
    rw [if_neg ff] at H
    have H' := am H
    clear H
    go_wp2
    go_loopg [7, 8] kj3 (fun kq v7 v8 w' => ∃ (x7_2 : Int) (x8_2 : Int), v7 = .int .u64 x7_2 ∧ v8 = .int .i64 x8_2 ∧ Aside0 (postbagref01_Field0.l0 kq a0 a1 a2 x7_2 x8_2 = some r) ∧ Aside0 (kq ≤ kj3) ∧ Drawn0 w w')
    case atStart => exact ⟨(0), (0), fr, fr, H', ⟨Nat.le_refl _⟩, dd⟩
    case round =>
     clear H'
     try clear p2
     try clear c3
     try clear c5
     try clear c5b0
     try clear c6
     try clear c6b0
     try clear c7
     try clear p2
     obtain ⟨x7_2, x8_2, rfl, rfl, HA, HK2, ⟨m2, rfl⟩⟩ := hrel
     cases gk with
     | zero => exact absurd HA.out (by simp [postbagref01_Field0.l0])
     | succ k2 =>
      have H := HA.out
      clear HA
      simp only [postbagref01_Field0.l0] at H
      have HC8 := am H
      clear H
      go_upto_region 5 with (fail)
      go_cut [27] (fun v27 wc => ∃ (kq : Nat) (x27_7 : Bool), v27 = .bool x27_7 ∧ Aside0 (postbagref01_Field0.j2 kq a0 a1 a2 x7_2 x8_2 x27_7 = some r) ∧ Aside0 (kq ≤ k2) ∧ Drawn0 w wc)
      case first =>
       have H := HC8.out
       clear HC8
       by_cases c9 : x8_2 < a2
       ·rw [if_pos c9] at H
        have c9b0 : decide (x8_2 < a2) = true := decide_eq_true c9
        clear c9
        (first | rw [c9b0] | (simp only [i64_w, i32_w]; rw [c9b0]) | skip)
        have H' := am H
        clear H
        go_wp2
        go_meet
        case rel => exact ⟨_, (decide (x8_2 < (wrap64 (64 - a1)))), fr, H', ⟨by have := HJ3.out; have := HK2.out; first | omega | exact Nat.le_refl _⟩, dd⟩
       ·rw [if_neg c9] at H
        have c9b0 : decide (x8_2 < a2) = false := decide_eq_false c9
        clear c9
        (first | rw [c9b0] | (simp only [i64_w, i32_w]; rw [c9b0]) | skip)
        have H' := am H
        clear H
        go_wp2
        go_meet
        case rel => exact ⟨_, (false), fr, H', ⟨by have := HJ3.out; have := HK2.out; first | omega | exact Nat.le_refl _⟩, dd⟩
      case rest =>
       clear HC8
       try clear p2
       try clear c3
       try clear c5
       try clear c5b0
       try clear c6
       try clear c6b0
       try clear p6
       try clear c7
       try clear c9
       try clear c9b0
       try clear p2
       obtain ⟨kq, x27_7, rfl, HA, HJ7, ⟨mc7, rfl⟩⟩ := hcut
       cases kq with
       | zero => exact absurd HA.out (by simp [postbagref01_Field0.j2])
       | succ kj7 =>
        have H := HA.out
        clear HA
        simp only [postbagref01_Field0.j2] at H
        by_cases c10 : x27_7 = true
        ·subst c10
         rw [if_pos rfl] at H
         obtain ⟨t224, A11, H⟩ := bam H
         try dsimp only at H
         obtain ⟨t225, A12, H⟩ := bam H
         try dsimp only at H
         have H' := am H
         clear H
         go_wp2_with (first | ((with_reducible refine gate_callee (f := 103) rfl ?_); refine gl (some 35) rfl rfl Tryz.func103 rfl #[.int .u64 a0, .int .i64 (wrap64 (a1 + x8_2))] rfl ?_; (with_reducible refine (postbagref01_Bit.calls a0 (wrap64 (a1 + x8_2)) t224 _ A11.out).mono ?_); rintro e w' ⟨rfl, ⟨nd, rfl⟩⟩; refine ⟨_, rfl, ?_⟩) | ((with_reducible refine gate_callee (f := 111) rfl ?_); refine gl (some 37) rfl rfl Tryz.func111 rfl #[.int .i64 x8_2] rfl ?_; (with_reducible refine (postbagref01_power.calls x8_2 t225 _ A12.out).mono ?_); rintro e w' ⟨rfl, ⟨nd, rfl⟩⟩; refine ⟨_, rfl, ?_⟩))
         go_roundg kj7
         case measure => have := HJ3.out; have := HK2.out; have := HJ7.out; omega
         case rel => exact ⟨(IntKind.u64.wrap (x7_2 + (IntKind.u64.wrap (t224 * t225)))), (wrap64 (x8_2 + 1)), fr, fr, H', ⟨by have := HJ3.out; have := HK2.out; have := HJ7.out; omega⟩, dd⟩
        ·replace c10 := Bool.eq_false_iff.mpr c10
         subst c10
         rw [if_neg ff] at H
         obtain rfl := Option.some.inj H
         go_wp2
         go_ret
         exact fd
def postbagref01_Field.f (a0 : Int) (a1 : Int) (a2 : Int) : Option (Int) := if U64 a0 then some (fieldOf a0 a1 a2) else none
theorem postbagref01_Field.loop (X L M : Nat) (hX : X < 2 ^ 64) (hL : L ≤ 63) (d : Nat) : ∀ (k i : Nat), i + d = min M (64 - L) → 2 * d + 1 < k →
  postbagref01_Field0.l0 k X L M ((X / 2 ^ L % 2 ^ i : Nat) : Int) i = some ((X / 2 ^ L % 2 ^ (min M 64) : Nat) : Int) := by
 have hend : ∀ (k i : Nat), i = min M (64 - L) → 1 < k → postbagref01_Field0.l0 k X L M ((X / 2 ^ L % 2 ^ i : Nat) : Int) i = some ((X / 2 ^ L % 2 ^ (min M 64) : Nat) : Int) := by
  intro k i hi hk
  obtain ⟨k, rfl⟩ : ∃ m, k = m + 2 := ⟨k - 2, by omega⟩
  simp only [postbagref01_Field0.l0]
  have : postbagref01_Field0.j2 (k + 1) X L M ((X / 2 ^ L % 2 ^ i : Nat) : Int) i false = some ((X / 2 ^ L % 2 ^ (min M 64) : Nat) : Int) := by
   simp only [postbagref01_Field0.j2]; rw [if_neg (by decide), hi, field_all X L M hX hL]
  by_cases hM : (i : Int) < M
  ·rw [if_pos hM, I64.wrap_eq (by unfold I64; omega), decide_eq_false (by omega)]; exact this
  ·rw [if_neg hM]; exact this
 induction d with
 | zero => intro k i hi hk; exact hend k i (by omega) (by omega)
 | succ d ih =>
  intro k i hi hk
  obtain ⟨k, rfl⟩ : ∃ m, k = m + 2 := ⟨k - 2, by omega⟩
  simp only [postbagref01_Field0.l0]
  rw [if_pos (by omega), I64.wrap_eq (by unfold I64; omega), decide_eq_true (by omega)]
  simp only [postbagref01_Field0.j2]
  rw [if_pos trivial, I64.wrap_eq (by unfold I64; omega), I64.wrap_eq (by unfold I64; omega), postbagref01_Bit.eq (U64.mk hX)]
  simp only [Option.bind_some, postbagref01_power.f]
  have e1 : bitOf (X : Int) ((L : Int) + i) = ((X / 2 ^ (L + i) % 2 : Nat) : Int) := by
   rw [show ((L : Int) + i) = ((L + i : Nat) : Int) from by omega, bitOf_nat _ _ (by omega)]; simp
  have e2 : powOf (i : Int) = ((2 ^ i : Nat) : Int) := by unfold powOf; rw [if_neg (by omega), if_neg (by omega), Int.toNat_natCast, ipow]
  have hlt : X / 2 ^ L % 2 ^ (i + 1) < 2 ^ 64 := Nat.lt_of_le_of_lt (Nat.le_trans (Nat.mod_le _ _) (Nat.div_le_self _ _)) hX
  have hs := field_step X L i
  have e3 : IntKind.u64.wrap (((X / 2 ^ (L + i) % 2 : Nat) : Int) * ((2 ^ i : Nat) : Int)) = ((X / 2 ^ (L + i) % 2 * 2 ^ i : Nat) : Int) := by
   rw [← Int.natCast_mul]; exact wrap_nat _ (by omega)
  rw [e1, e2, e3, ← Int.natCast_add, ← hs, wrap_nat _ hlt, show ((i : Int) + 1) = ((i + 1 : Nat) : Int) from by omega]
  exact ih k (i + 1) (by omega) (by omega)
theorem postbagref01_Field.spec (a0 a1 a2 r : Int) (h : postbagref01_Field.f a0 a1 a2 = some r) : ∃ k, postbagref01_Field0.f k a0 a1 a2 = some r := by
 unfold postbagref01_Field.f at h
 by_cases hu : U64 a0
 ·rw [if_pos hu] at h
  obtain rfl := Option.some.inj h
  refine ⟨133, ?_⟩
  unfold postbagref01_Field0.f
  by_cases h1 : a1 < 0
  ·rw [if_pos h1]; simp only [postbagref01_Field0.j0, if_true, fieldOf]; rw [if_pos (Or.inl h1)]
  ·rw [if_neg h1]
   by_cases h2 : a1 > 63
   ·rw [if_pos h2]; simp only [postbagref01_Field0.j0, if_true, fieldOf]; rw [if_pos (Or.inr (Or.inl h2))]
   ·rw [if_neg h2]
    by_cases h3 : a2 < 1
    ·rw [decide_eq_true h3]; simp only [postbagref01_Field0.j0, if_true, fieldOf]; rw [if_pos (Or.inr (Or.inr h3))]
    ·rw [decide_eq_false h3]
     simp only [postbagref01_Field0.j0]
     obtain ⟨X, rfl, hX⟩ := hu.nat
     obtain ⟨L, rfl⟩ : ∃ L : Nat, a1 = L := ⟨a1.toNat, by omega⟩
     obtain ⟨M, rfl⟩ : ∃ M : Nat, a2 = M := ⟨a2.toNat, by omega⟩
     have h := postbagref01_Field.loop X L M hX (by omega) (min M (64 - L)) 132 0 (by omega) (by omega)
     rw [if_neg (by decide), field_nat X L M (by omega) (by omega)]
     rw [Nat.pow_zero, Nat.mod_one] at h
     exact h
 ·rw [if_neg hu] at h; exact absurd h (by simp)
theorem postbagref01_Field.calls (a0 : Int) (a1 : Int) (a2 : Int) (r : Int) (w : World) (h : postbagref01_Field.f a0 a1 a2 = some r) :
  Calls Tryz.prog 98 #[.int .u64 a0, .int .i64 a1, .int .i64 a2] w fun e w' => e = .returned (.int .u64 r) ∧ Drawn0 w w' := by
 obtain ⟨k, hk⟩ := postbagref01_Field.spec a0 a1 a2 r h
 exact postbagref01_Field0.calls k a0 a1 a2 r w hk
def postbagref02_field0.f (a0 : Int) (a1 : Int) (a2 : Int) : Option (Int) := (postbagref01_Field.f (IntKind.u64.wrap (a0)) a1 a2).bind fun t226 => (some t226)
set_option maxHeartbeats 8000000 in
set_option maxRecDepth 100000 in
theorem postbagref02_field0.calls (a0 : Int) (a1 : Int) (a2 : Int) (r : Int) (w : World) (h : postbagref02_field0.f a0 a1 a2 = some r) :
  Calls Tryz.prog 94 #[.int .u32 a0, .int .i64 a1, .int .i64 a2] w fun e w' => e = .returned (.int .u64 r) ∧ Drawn0 w w' := by
 have H := h
 clear h
 unfold postbagref02_field0.f at H
 replace H := Option.bind_eq_some_iff.mp H
 obtain ⟨t226, A40, H⟩ := H
 replace H : (some t226) = some r := H
 have A4 := am A40
 clear A40
 obtain rfl := Option.some.inj H
 go_enter Tryz.func94, Tryz.ntmps94
 go_wp2_with (first | ((with_reducible refine gate_callee (f := 98) rfl ?_); refine gl (some 11) rfl rfl Tryz.func98 rfl #[.int .u64 (IntKind.u64.wrap (a0)), .int .i64 a1, .int .i64 a2] rfl ?_; (with_reducible refine (postbagref01_Field.calls (IntKind.u64.wrap (a0)) a1 a2 t226 _ A4.out).mono ?_); rintro e w' ⟨rfl, ⟨nd, rfl⟩⟩; refine ⟨_, rfl, ?_⟩))
 go_ret
 exact fd
def postbagref02_field.f (a0 : Int) (a1 : Int) (a2 : Int) : Option (Int) := if 0 ≤ a0 ∧ a0 < 4294967296 ∧ 0 ≤ a1 ∧ 1 ≤ a2 ∧ a1 + a2 ≤ 64 then some (a0 / 2 ^ a1.toNat % 2 ^ a2.toNat) else none
theorem postbagref02_field.spec (a0 a1 a2 r : Int) (h : postbagref02_field.f a0 a1 a2 = some r) : postbagref02_field0.f a0 a1 a2 = some r := by
 unfold postbagref02_field.f at h
 split at h
 ·rename_i hc
  obtain rfl := Option.some.inj h
  obtain ⟨low, rfl⟩ := Int.eq_ofNat_of_zero_le hc.2.2.1
  obtain ⟨n, rfl⟩ := Int.eq_ofNat_of_zero_le (show 0 ≤ a2 by omega)
  unfold postbagref02_field0.f postbagref01_Field.f
  rw [if_pos (U64.wrap _)]
  simp only [Option.bind_some]
  rw [field_lit _ low n (by omega) (by omega) (by omega), U64.wrap_eq (show U64 a0 by unfold U64; omega)]
  simp
 ·simp at h
theorem postbagref02_field.calls (a0 : Int) (a1 : Int) (a2 : Int) (r : Int) (w : World) (h : postbagref02_field.f a0 a1 a2 = some r) :
  Calls Tryz.prog 94 #[.int .u32 a0, .int .i64 a1, .int .i64 a2] w fun e w' => e = .returned (.int .u64 r) ∧ Drawn0 w w' := by
 have hk := postbagref02_field.spec a0 a1 a2 r h
 exact postbagref02_field0.calls a0 a1 a2 r w hk
end Go.Proofs.YtcjfafhbohkhlaaGreat.PAll
