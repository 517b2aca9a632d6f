/- DERIVED. Printed contracts of functions. -/
import Derived.Test.YtcjfafhbohkhlaaGreatPAllx0
namespace Go.Proofs.YtcjfafhbohkhlaaGreat.PAll
open Go.RowKit Go.Proofs.YtcjfafhbohkhlaaGreatW.PrintWords Go.Proofs.YtcjfafhbohkhlaaGreatW.PrintLast Go.Proofs.YtcjfafhbohkhlaaGreatW.PrintMore Go.Proofs.YtcjfafhbohkhlaaGreat.M
attribute [local go_sem] max2_int min2_int max_two min_two max_three min_three max_four min_four
set_option linter.unusedVariables false
set_option linter.unusedSimpArgs false
-- NOT PRINTED: function 14 (memory_New)
-- NOT PRINTED: function 15 (postbagref05_New)
def inst_of.f (a0 : Int) : Option (Int × Int × Int × Int) := some (formOf a0, codeOf a0, f3Of a0, f7Of a0)
set_option maxHeartbeats 8000000 in
set_option maxRecDepth 20000 in
theorem inst_of.calls (a0 : Int) (r1 : Int) (r2 : Int) (r3 : Int) (r4 : Int) (w : World) (h : inst_of.f a0 = some (r1, r2, r3, r4)) :
  Calls Tryz.prog 40 #[.int .i64 a0] w fun e w' => e = .returned (.agg #[.int .i64 r1, .int .i64 r2, .int .i64 r3, .int .i64 r4]) ∧ Below w.heap.size w w' := by
 obtain ⟨rfl, rfl, rfl, rfl⟩ : formOf a0 = r1 ∧ codeOf a0 = r2 ∧ f3Of a0 = r3 ∧ f7Of a0 = r4 := by simpa only [inst_of.f, Option.some.injEq, Prod.mk.injEq] using h
 clear h
 have hz : ∀ W, (zeroValue 116).run Tryz.prog W = .ok (.agg (Array.replicate 348 (.int .i64 0))) W := fun _ => by kernel_rfl
 go_enter Tryz.func40, Tryz.ntmps40
 iterate 11 go_step
 generalize (List.toArray (List.append _ _)) = OPS
 refine wpList_builds_take 88 _ _ _ { tmps := #[.int .i64 a0, undef, .pointer (some ⟨w.heap.size, 0, none⟩), undef, instRow 0, instRow 1, instRow 2, instRow 3, instRow 4, instRow 5, instRow 6, instRow 7, instRow 8, instRow 9, instRow 10, instRow 11, instRow 12, instRow 13, instRow 14, instRow 15, instRow 16, instRow 17, instRow 18, instRow 19, instRow 20, instRow 21, instRow 22, instRow 23, instRow 24, instRow 25, instRow 26, instRow 27, instRow 28, instRow 29, instRow 30, instRow 31, instRow 32, instRow 33, instRow 34, instRow 35, instRow 36, instRow 37, instRow 38, instRow 39, instRow 40, instRow 41, instRow 42, instRow 43, instRow 44, instRow 45, instRow 46, instRow 47, instRow 48, instRow 49, instRow 50, instRow 51, instRow 52, instRow 53, instRow 54, instRow 55, instRow 56, instRow 57, instRow 58, instRow 59, instRow 60, instRow 61, instRow 62, instRow 63, instRow 64, instRow 65, instRow 66, instRow 67, instRow 68, instRow 69, instRow 70, instRow 71, instRow 72, instRow 73, instRow 74, instRow 75, instRow 76, instRow 77, instRow 78, instRow 79, instRow 80, instRow 81, instRow 82, instRow 83, instRow 84, instRow 85, instRow 86, .agg instCells, undef, undef, undef, undef, undef, undef, undef, undef, undef, undef, undef], defers := [] } ?h rfl ?_
 case h => kernel_rfl
 simp only [List.append_eq, List.cons_append, List.nil_append, List.drop_succ_cons, List.drop_zero]
 go_step
 go_step
 go_step
 refine wpList_store_row rfl 116 _ _ rfl (w.heap.size + 1) instCells rfl rfl 116 (Array.replicate 348 (.int .i64 0)) ?hblk (by kernel_rfl) (by kernel_rfl) (by kernel_rfl) ?_
 case hblk =>
  have h := Blk.new (w.alloc (.cells #[.int .i64 0, .int .i64 0, .int .i64 0, .int .i64 0] 87)) (Array.replicate 348 (.int .i64 0)) 116
  rw [World.size_alloc] at h
  exact h
 generalize hX : World.setRow _ _ _ = X
 have B1 : Blk X w.heap.size #[.int .i64 0, .int .i64 0, .int .i64 0, .int .i64 0] 87 := by
  have h := ((Blk.new w #[.int .i64 0, .int .i64 0, .int .i64 0, .int .i64 0] 87).alloc (.cells instCells 116))
  rw [← World.setRow_alloc_new _ (Array.replicate 348 (.int .i64 0)), World.size_alloc] at h
  exact hX ▸ h
 have B2 : Blk X (w.heap.size + 1) instCells 116 := by
  have h := Blk.new (w.alloc (.cells #[.int .i64 0, .int .i64 0, .int .i64 0, .int .i64 0] 87)) instCells 116
  rw [← World.setRow_alloc_new _ (Array.replicate 348 (.int .i64 0)), World.size_alloc] at h
  exact hX ▸ h
 have hb : Below w.heap.size w X := by
  have h := ((Below.refl w.heap.size w).alloc (Nat.le_refl _) (.cells #[.int .i64 0, .int .i64 0, .int .i64 0, .int .i64 0] 87)).alloc (by simp) (.cells instCells 116)
  rw [← World.setRow_alloc_new _ (Array.replicate 348 (.int .i64 0)), World.size_alloc] at h
  exact hX ▸ h
 clear hX hz
 have c1 := B1.cell
 have f1 := B1.frozen
 have l1 := B1.lt
 by_cases hr : 1 ≤ a0 ∧ a0 ≤ 87
 ·have q : ∀ j, j < 4 → X.cell? ⟨w.heap.size + 1, (a0.toNat - 1) * 4 + j, none⟩ = some (.int .i64 (instNums.getD (4 * (a0 - 1).toNat + j) 0)) := by
   intro j hj
   have h := B2.cell ((a0.toNat - 1) * 4 + j)
   have e1 : a0.toNat - 1 = (a0 - 1).toNat := by omega
   rw [e1, Nat.mul_comm] at h ⊢
   rw [h]
   have hl : 4 * (a0 - 1).toNat + j < instNums.length := by
    have e : instNums.length = 348 := by decide +kernel
    omega
   simp only [instCells, List.getElem?_toArray, List.getElem?_map, List.getElem?_eq_getElem hl, List.getD_eq_getElem?_getD, Option.map_some, Option.getD_some]
  have q0 : X.cell? ⟨w.heap.size + 1, (a0.toNat - 1) * 4, none⟩ = some (.int .i64 (formOf a0)) := by rw [formOf, if_pos hr]; exact q 0 (by omega)
  have q1 : X.cell? ⟨w.heap.size + 1, (a0.toNat - 1) * 4 + 1, none⟩ = some (.int .i64 (codeOf a0)) := by rw [codeOf, if_pos hr]; exact q 1 (by omega)
  have q2 : X.cell? ⟨w.heap.size + 1, (a0.toNat - 1) * 4 + 2, none⟩ = some (.int .i64 (f3Of a0)) := by rw [f3Of, if_pos hr]; exact q 2 (by omega)
  have q3 : X.cell? ⟨w.heap.size + 1, (a0.toNat - 1) * 4 + 3, none⟩ = some (.int .i64 (f7Of a0)) := by rw [f7Of, if_pos hr]; exact q 3 (by omega)
  clear q B2
  have hb := Lib.hid hb
  obtain ⟨hr1, hr2⟩ := hr
  go_wp2
  (try simp only [Exit.inBlock, Exit.then])
  generalize hY : World.setCell _ _ _ = Y
  have BY : Blk Y w.heap.size #[.int .i64 (formOf a0), .int .i64 (codeOf a0), .int .i64 (f3Of a0), .int .i64 (f7Of a0)] 87 := by
   have h := (((B1.set 0 (.int .i64 (formOf a0))).set 1 (.int .i64 (codeOf a0))).set 2 (.int .i64 (f3Of a0))).set 3 (.int .i64 (f7Of a0))
   rw [← hY]
   simpa using h
  have hbY : Below w.heap.size w Y := by
   rw [← hY]
   have hb := hb.out
   go_grown
  have cY := BY.cell
  refine bodyPost_ret (v := .agg #[.int .i64 (formOf a0), .int .i64 (codeOf a0), .int .i64 (f3Of a0), .int .i64 (f7Of a0)]) (by simp [results, Tryz.results40, go_sem, cY]) rfl ?_
  exact ⟨rfl, hbY⟩
 ·clear B2
  have z1 : formOf a0 = 0 := by rw [formOf, if_neg hr]
  have z2 : codeOf a0 = 0 := by rw [codeOf, if_neg hr]
  have z3 : f3Of a0 = 0 := by rw [f3Of, if_neg hr]
  have z4 : f7Of a0 = 0 := by rw [f7Of, if_neg hr]
  have z := Lib.hid (And.intro z1 (And.intro z2 (And.intro z3 z4)))
  clear z1 z2 z3 z4
  have hb := Lib.hid hb
  go_wp2
  all_goals (
   (try simp only [Exit.inBlock, Exit.then])
   generalize hY : World.setCell _ _ _ = Y
   have BY : Blk Y w.heap.size #[.int .i64 0, .int .i64 0, .int .i64 0, .int .i64 0] 87 := by
    have h := (((B1.set 0 (.int .i64 0)).set 1 (.int .i64 0)).set 2 (.int .i64 0)).set 3 (.int .i64 0)
    rw [← hY]
    simpa using h
   have hbY : Below w.heap.size w Y := by
    rw [← hY]
    have hb := hb.out
    go_grown
   have cY := BY.cell
   refine bodyPost_ret (v := .agg #[.int .i64 0, .int .i64 0, .int .i64 0, .int .i64 0]) (by simp [results, Tryz.results40, go_sem, cY]) rfl ?_
   obtain ⟨z1, z2, z3, z4⟩ := z.out
   rw [z1, z2, z3, z4]
   exact ⟨rfl, hbY⟩)
mutual
def inst_kept0.j0 : Nat → Int → Int → Int → Int → Int → Int → Bool → Bool → Option (Int × Int × Int × Int × Int × Bool × Bool)
 | 0, _, _, _, _, _, _, _, _ => none
 | k + 1, x1, x102000, x102001, x102002, x102003, x102004, x102005, x102006 => if (Go.bits .and .i64 x1 2) = 0 then (inst_kept0.j1 k x1 x102000 x102001 0 x102003 x102004 x102005 x102006) else (inst_kept0.j1 k x1 x102000 x102001 x102002 x102003 x102004 x102005 x102006)
def inst_kept0.j1 : Nat → Int → Int → Int → Int → Int → Int → Bool → Bool → Option (Int × Int × Int × Int × Int × Bool × Bool)
 | 0, _, _, _, _, _, _, _, _ => none
 | k + 1, x1, x102000, x102001, x102002, x102003, x102004, x102005, x102006 => if (Go.bits .and .i64 x1 4) = 0 then (if (Go.bits .and .i64 x1 16) = 0 then (some (x102000, x102001, x102002, 0, x102004, false, false)) else (some (x102000, x102001, x102002, 0, x102004, x102005, x102006))) else (if (Go.bits .and .i64 x1 16) = 0 then (some (x102000, x102001, x102002, x102003, x102004, false, false)) else (some (x102000, x102001, x102002, x102003, x102004, x102005, x102006)))
end
def inst_kept0.f (k : Nat) (a0_0 : Int) (a0_1 : Int) (a0_2 : Int) (a0_3 : Int) (a0_4 : Int) (a0_5 : Bool) (a0_6 : Bool) (a1 : Int) : Option (Int × Int × Int × Int × Int × Bool × Bool) := if (Go.bits .and .i64 a1 1) = 0 then (inst_kept0.j0 k a1 a0_0 0 a0_2 a0_3 a0_4 a0_5 a0_6) else (inst_kept0.j0 k a1 a0_0 a0_1 a0_2 a0_3 a0_4 a0_5 a0_6)
theorem inst_kept0.mono_l : ∀ k, (∀ y0 y1 y2 y3 y4 y5 y6 y7, LeO (inst_kept0.j0 k y0 y1 y2 y3 y4 y5 y6 y7) (inst_kept0.j0 (k + 1) y0 y1 y2 y3 y4 y5 y6 y7)) ∧ (∀ y0 y1 y2 y3 y4 y5 y6 y7, LeO (inst_kept0.j1 k y0 y1 y2 y3 y4 y5 y6 y7) (inst_kept0.j1 (k + 1) y0 y1 y2 y3 y4 y5 y6 y7))
 | 0 => ⟨fun _ _ _ _ _ _ _ _ r h => by simp [inst_kept0.j0] at h, fun _ _ _ _ _ _ _ _ r h => by simp [inst_kept0.j1] at h⟩
 | k + 1 => by
  obtain ⟨ih0, ih1⟩ := inst_kept0.mono_l k
  refine ⟨?_, ?_⟩
  ·intro y0 y1 y2 y3 y4 y5 y6 y7
   unfold inst_kept0.j0
   exact leo
  ·intro y0 y1 y2 y3 y4 y5 y6 y7
   unfold inst_kept0.j1
   exact leo
theorem inst_kept0.mono : ∀ a0 a1 a2 a3 a4 a5 a6 a7 k, LeO (inst_kept0.f k a0 a1 a2 a3 a4 a5 a6 a7) (inst_kept0.f (k + 1) a0 a1 a2 a3 a4 a5 a6 a7) := by
 intro a0 a1 a2 a3 a4 a5 a6 a7 k
 obtain ⟨ih0, ih1⟩ := inst_kept0.mono_l k
 unfold inst_kept0.f
 exact leo
set_option maxHeartbeats 8000000 in
set_option maxRecDepth 100000 in
theorem inst_kept0.calls (k : Nat) (a0_0 : Int) (a0_1 : Int) (a0_2 : Int) (a0_3 : Int) (a0_4 : Int) (a0_5 : Bool) (a0_6 : Bool) (a1 : Int) (r1 : Int) (r2 : Int) (r3 : Int) (r4 : Int) (r5 : Int) (r6 : Bool) (r7 : Bool) (w : World) (h : inst_kept0.f k a0_0 a0_1 a0_2 a0_3 a0_4 a0_5 a0_6 a1 = some (r1, r2, r3, r4, r5, r6, r7)) :
  Calls Tryz.prog 75 #[.agg #[.int .i64 a0_0, .int .i64 a0_1, .int .i64 a0_2, .int .i64 a0_3, .int .i64 a0_4, .bool a0_5, .bool a0_6], .int .i64 a1] w fun e w' => e = .returned (.agg #[.int .i64 r1, .int .i64 r2, .int .i64 r3, .int .i64 r4, .int .i64 r5, .bool r6, .bool r7]) ∧ Below w.heap.size w w' := by
 have hu50 := Tryz.underlying50
 have HB := am (Below.refl w.heap.size w)
 have H := h
 clear h
 unfold inst_kept0.f at H
 have HC3 := am H
 clear H
 go_enter Tryz.func75, Tryz.ntmps75
 go_upto_if 7 with (first | ((with_reducible refine gate_dst (N := 2) rfl ?_); refine be 2 50 #[.int .i64 a0_0, .int .i64 a0_1, .int .i64 a0_2, .int .i64 a0_3, .int .i64 a0_4, .bool a0_5, .bool a0_6] ?_; intro gb101 hg w4 hbox hb; have BK101 := am hbox; have GW101 := bz HB hg; have GE101 := bz HB hg; replace HB := bn HB hb; clear hb hbox hg) | ((with_reducible refine gate_dst (N := 4) rfl ?_); refine be 4 50 #[.int .i64 0, .int .i64 0, .int .i64 0, .int .i64 0, .int .i64 0, .bool false, .bool false] ?_; intro gb102 hg w5 hbox hb; have BK102 := am hbox; have GW102 := bzs HB GE101 hg; have GE102 := bzs HB GE101 hg; have NB101_102 := nl BK101 hg; have NB102_101 := ng BK101 hg; replace BK101 := bk BK101 hb; replace HB := bns HB GE101 hb; clear hb hbox hg))
 (try simp only [Act.put, List.setIfInBounds_toArray, List.set_cons_zero, List.set_cons_succ])
 go_cut [] (fun wc => ∃ (kq : Nat) (x102001_2 : Int), Aside0 (inst_kept0.j0 kq a1 a0_0 x102001_2 a0_2 a0_3 a0_4 a0_5 a0_6 = some (r1, r2, r3, r4, r5, r6, r7)) ∧ Aside0 (kq ≤ k) ∧ Aside0 (wc.heap[gb101]? = some (.cells #[.int .i64 a0_0, .int .i64 x102001_2, .int .i64 a0_2, .int .i64 a0_3, .int .i64 a0_4, .bool a0_5, .bool a0_6] 50 (0, 0))) ∧ Aside0 (wc.heap[gb102]? = some (.cells #[.int .i64 0, .int .i64 0, .int .i64 0, .int .i64 0, .int .i64 0, .bool false, .bool false] 50 (0, 0))) ∧ Aside0 (Below w.heap.size w wc))
 case first =>
  have H := HC3.out
  clear HC3
  by_cases c6 : (Go.bits .and .i64 a1 1) = 0
  ·rw [if_pos c6] at H
   obtain ⟨c6b0, c6b1⟩ := bqt c6
   clear c6
   (first | rw [c6b0] | (simp only [i64_w, i32_w]; rw [c6b0]) | skip)
   have H' := am H
   clear H
   have hnb7 := NB101_102.out
   have hnc7 := NB102_101.out
   obtain ⟨z8_0, z8_1, z8_2, z8_3, z8_4, z8_5, z8_6, f8_0, f8_1, f8_2, f8_3, f8_4, f8_5, f8_6⟩ := cf7 BK101
   go_wp2
   go_meet
   case rel => exact ⟨_, (0), H', ⟨om⟩, ⟨by (with_reducible repeat (first | refine blk_drewN ?_ _ | refine blk_drew ?_ | refine blk_alloc ?_ _)); refine blk_put (cs := #[.int .i64 a0_0, .int .i64 a0_1, .int .i64 a0_2, .int .i64 a0_3, .int .i64 a0_4, .bool a0_5, .bool a0_6]) ?_ 1 _ rfl; (with_reducible repeat (first | refine blk_drewN ?_ _ | refine blk_drew ?_ | refine blk_alloc ?_ _)); exact BK101.out⟩, ⟨by (with_reducible repeat (first | refine blk_drewN ?_ _ | refine blk_drew ?_ | refine blk_alloc ?_ _)); refine blk_far ?_ NB102_101.out _; (with_reducible repeat (first | refine blk_drewN ?_ _ | refine blk_drew ?_ | refine blk_alloc ?_ _)); exact BK102.out⟩, ⟨bs2 HB GE101 GE102⟩⟩
  ·rw [if_neg c6] at H
   obtain ⟨c6b0, c6b1⟩ := bqf c6
   (first | rw [c6b0] | (simp only [i64_w, i32_w]; rw [c6b0]) | skip)
   have H' := am H
   clear H
   go_wp2
   go_meet
   case rel => exact ⟨_, (a0_1), H', ⟨om⟩, ⟨bu BK101⟩, ⟨bu BK102⟩, ⟨bs2 HB GE101 GE102⟩⟩
 case rest =>
  clear HC3
  try clear p2
  try clear c6
  try clear c6b0
  try clear c6b1
  try clear c7
  try clear z8_0
  try clear z8_1
  try clear z8_2
  try clear z8_3
  try clear z8_4
  try clear z8_5
  try clear z8_6
  try clear f8_0
  try clear f8_1
  try clear f8_2
  try clear f8_3
  try clear f8_4
  try clear f8_5
  try clear f8_6
  obtain ⟨kq, x102001_2, HA, HJ2, BK101, BK102, HB⟩ := hcut
  cases kq with
  | zero => exact absurd HA.out (by simp [inst_kept0.j0])
  | succ kj2 =>
   have H := HA.out
   clear HA
   simp only [inst_kept0.j0] at H
   have HC9 := am H
   clear H
   go_upto_if 11 with (fail)
   go_cut [] (fun wc => ∃ (kq : Nat) (x102002_8 : Int), Aside0 (inst_kept0.j1 kq a1 a0_0 x102001_2 x102002_8 a0_3 a0_4 a0_5 a0_6 = some (r1, r2, r3, r4, r5, r6, r7)) ∧ Aside0 (kq ≤ kj2) ∧ Aside0 (wc.heap[gb101]? = some (.cells #[.int .i64 a0_0, .int .i64 x102001_2, .int .i64 x102002_8, .int .i64 a0_3, .int .i64 a0_4, .bool a0_5, .bool a0_6] 50 (0, 0))) ∧ Aside0 (wc.heap[gb102]? = some (.cells #[.int .i64 0, .int .i64 0, .int .i64 0, .int .i64 0, .int .i64 0, .bool false, .bool false] 50 (0, 0))) ∧ Aside0 (Below w.heap.size w wc))
   case first =>
    have H := HC9.out
    clear HC9
    by_cases c10 : (Go.bits .and .i64 a1 2) = 0
    ·rw [if_pos c10] at H
     obtain ⟨c10b0, c10b1⟩ := bqt c10
     clear c10
     (first | rw [c10b0] | (simp only [i64_w, i32_w]; rw [c10b0]) | skip)
     have H' := am H
     clear H
     have hnb11 := NB101_102.out
     have hnc11 := NB102_101.out
     obtain ⟨z12_0, z12_1, z12_2, z12_3, z12_4, z12_5, z12_6, f12_0, f12_1, f12_2, f12_3, f12_4, f12_5, f12_6⟩ := cf7 BK101
     go_wp2
     go_meet
     case rel => exact ⟨_, (0), H', ⟨by have := HJ2.out; first | omega | exact Nat.le_refl _⟩, ⟨by (with_reducible repeat (first | refine blk_drewN ?_ _ | refine blk_drew ?_ | refine blk_alloc ?_ _)); refine blk_put (cs := #[.int .i64 a0_0, .int .i64 x102001_2, .int .i64 a0_2, .int .i64 a0_3, .int .i64 a0_4, .bool a0_5, .bool a0_6]) ?_ 2 _ rfl; (with_reducible repeat (first | refine blk_drewN ?_ _ | refine blk_drew ?_ | refine blk_alloc ?_ _)); exact BK101.out⟩, ⟨by (with_reducible repeat (first | refine blk_drewN ?_ _ | refine blk_drew ?_ | refine blk_alloc ?_ _)); refine blk_far ?_ NB102_101.out _; (with_reducible repeat (first | refine blk_drewN ?_ _ | refine blk_drew ?_ | refine blk_alloc ?_ _)); exact BK102.out⟩, ⟨bs2 HB GE101 GE102⟩⟩
    ·rw [if_neg c10] at H
     obtain ⟨c10b0, c10b1⟩ := bqf c10
     (first | rw [c10b0] | (simp only [i64_w, i32_w]; rw [c10b0]) | skip)
     have H' := am H
     clear H
     go_wp2
     go_meet
     case rel => exact ⟨_, (a0_2), H', ⟨by have := HJ2.out; first | omega | exact Nat.le_refl _⟩, ⟨bu BK101⟩, ⟨bu BK102⟩, ⟨bs2 HB GE101 GE102⟩⟩
   case rest =>
    clear HC9
    try clear c1
    try clear p2
    try clear c6
    try clear c6b0
    try clear c6b1
    try clear c7
    try clear c10
    try clear c10b0
    try clear c10b1
    try clear c11
    try clear z12_0
    try clear z12_1
    try clear z12_2
    try clear z12_3
    try clear z12_4
    try clear z12_5
    try clear z12_6
    try clear z8_0
    try clear z8_1
    try clear z8_2
    try clear z8_3
    try clear z8_4
    try clear z8_5
    try clear z8_6
    try clear f12_0
    try clear f12_1
    try clear f12_2
    try clear f12_3
    try clear f12_4
    try clear f12_5
    try clear f12_6
    try clear f8_0
    try clear f8_1
    try clear f8_2
    try clear f8_3
    try clear f8_4
    try clear f8_5
    try clear f8_6
    try clear p2
    obtain ⟨kq, x102002_8, HA, HJ8, BK101, BK102, HB⟩ := hcut
    cases kq with
    | zero => exact absurd HA.out (by simp [inst_kept0.j1])
    | succ kj8 =>
     have H := HA.out
     clear HA
     simp only [inst_kept0.j1] at H
     by_cases c13 : (Go.bits .and .i64 a1 4) = 0
     ·rw [if_pos c13] at H
      obtain ⟨c13b0, c13b1⟩ := bqt c13
      clear c13
      by_cases c14 : (Go.bits .and .i64 a1 16) = 0
      ·rw [if_pos c14] at H
       obtain ⟨c14b0, c14b1⟩ := bqt c14
       clear c14
       simp only [Option.some.injEq, Prod.mk.injEq] at H
       obtain ⟨rfl, rfl, rfl, rfl, rfl, rfl, rfl⟩ := H
       have hnb15 := NB101_102.out
       have hnc15 := NB102_101.out
       obtain ⟨z16_0, z16_1, z16_2, z16_3, z16_4, z16_5, z16_6, f16_0, f16_1, f16_2, f16_3, f16_4, f16_5, f16_6⟩ := cf7 BK101
       obtain ⟨z17_0, z17_1, z17_2, z17_3, z17_4, z17_5, z17_6, f17_0, f17_1, f17_2, f17_3, f17_4, f17_5, f17_6⟩ := cf7 BK102
       go_wp2
       refine bodyPost_ret (results_cell_row rfl _ _ gb102 50 #[.int .i64 a0_0, .int .i64 x102001_2, .int .i64 x102002_8, .int .i64 0, .int .i64 a0_4, .bool false, .bool false] (0, 0) _ rfl (by (with_reducible repeat (first | refine blk_drewN ?_ _ | refine blk_drew ?_ | refine blk_alloc ?_ _)); refine blk_put (cs := #[.int .i64 a0_0, .int .i64 x102001_2, .int .i64 x102002_8, .int .i64 0, .int .i64 a0_4, .bool false, .bool false]) ?_ 6 _ rfl; (with_reducible repeat (first | refine blk_drewN ?_ _ | refine blk_drew ?_ | refine blk_alloc ?_ _)); refine blk_put (cs := #[.int .i64 a0_0, .int .i64 x102001_2, .int .i64 x102002_8, .int .i64 0, .int .i64 a0_4, .bool false, .bool false]) ?_ 5 _ rfl; (with_reducible repeat (first | refine blk_drewN ?_ _ | refine blk_drew ?_ | refine blk_alloc ?_ _)); refine blk_put (cs := #[.int .i64 a0_0, .int .i64 x102001_2, .int .i64 x102002_8, .int .i64 0, .int .i64 0, .bool false, .bool false]) ?_ 4 _ rfl; (with_reducible repeat (first | refine blk_drewN ?_ _ | refine blk_drew ?_ | refine blk_alloc ?_ _)); refine blk_put (cs := #[.int .i64 a0_0, .int .i64 x102001_2, .int .i64 x102002_8, .int .i64 0, .int .i64 0, .bool false, .bool false]) ?_ 3 _ rfl; (with_reducible repeat (first | refine blk_drewN ?_ _ | refine blk_drew ?_ | refine blk_alloc ?_ _)); refine blk_put (cs := #[.int .i64 a0_0, .int .i64 x102001_2, .int .i64 0, .int .i64 0, .int .i64 0, .bool false, .bool false]) ?_ 2 _ rfl; (with_reducible repeat (first | refine blk_drewN ?_ _ | refine blk_drew ?_ | refine blk_alloc ?_ _)); refine blk_put (cs := #[.int .i64 a0_0, .int .i64 0, .int .i64 0, .int .i64 0, .int .i64 0, .bool false, .bool false]) ?_ 1 _ rfl; (with_reducible repeat (first | refine blk_drewN ?_ _ | refine blk_drew ?_ | refine blk_alloc ?_ _)); refine blk_put (cs := #[.int .i64 0, .int .i64 0, .int .i64 0, .int .i64 0, .int .i64 0, .bool false, .bool false]) ?_ 0 _ rfl; (with_reducible repeat (first | refine blk_drewN ?_ _ | refine blk_drew ?_ | refine blk_alloc ?_ _)); refine blk_far ?_ NB102_101.out _; (with_reducible repeat (first | refine blk_drewN ?_ _ | refine blk_drew ?_ | refine blk_alloc ?_ _)); refine blk_far ?_ NB102_101.out _; (with_reducible repeat (first | refine blk_drewN ?_ _ | refine blk_drew ?_ | refine blk_alloc ?_ _)); refine blk_far ?_ NB102_101.out _; (with_reducible repeat (first | refine blk_drewN ?_ _ | refine blk_drew ?_ | refine blk_alloc ?_ _)); exact BK102.out) Tryz.underlying50 rfl (by kernel_rfl)) rfl ?_
       exact ⟨fe, bs2 HB GE101 GE102⟩
      ·rw [if_neg c14] at H
       obtain ⟨c14b0, c14b1⟩ := bqf c14
       simp only [Option.some.injEq, Prod.mk.injEq] at H
       obtain ⟨rfl, rfl, rfl, rfl, rfl, rfl, rfl⟩ := H
       have hnb18 := NB101_102.out
       have hnc18 := NB102_101.out
       obtain ⟨z19_0, z19_1, z19_2, z19_3, z19_4, z19_5, z19_6, f19_0, f19_1, f19_2, f19_3, f19_4, f19_5, f19_6⟩ := cf7 BK101
       obtain ⟨z20_0, z20_1, z20_2, z20_3, z20_4, z20_5, z20_6, f20_0, f20_1, f20_2, f20_3, f20_4, f20_5, f20_6⟩ := cf7 BK102
       go_wp2
       refine bodyPost_ret (results_cell_row rfl _ _ gb102 50 #[.int .i64 a0_0, .int .i64 x102001_2, .int .i64 x102002_8, .int .i64 0, .int .i64 a0_4, .bool a0_5, .bool a0_6] (0, 0) _ rfl (by (with_reducible repeat (first | refine blk_drewN ?_ _ | refine blk_drew ?_ | refine blk_alloc ?_ _)); refine blk_put (cs := #[.int .i64 a0_0, .int .i64 x102001_2, .int .i64 x102002_8, .int .i64 0, .int .i64 a0_4, .bool a0_5, .bool false]) ?_ 6 _ rfl; (with_reducible repeat (first | refine blk_drewN ?_ _ | refine blk_drew ?_ | refine blk_alloc ?_ _)); refine blk_put (cs := #[.int .i64 a0_0, .int .i64 x102001_2, .int .i64 x102002_8, .int .i64 0, .int .i64 a0_4, .bool false, .bool false]) ?_ 5 _ rfl; (with_reducible repeat (first | refine blk_drewN ?_ _ | refine blk_drew ?_ | refine blk_alloc ?_ _)); refine blk_put (cs := #[.int .i64 a0_0, .int .i64 x102001_2, .int .i64 x102002_8, .int .i64 0, .int .i64 0, .bool false, .bool false]) ?_ 4 _ rfl; (with_reducible repeat (first | refine blk_drewN ?_ _ | refine blk_drew ?_ | refine blk_alloc ?_ _)); refine blk_put (cs := #[.int .i64 a0_0, .int .i64 x102001_2, .int .i64 x102002_8, .int .i64 0, .int .i64 0, .bool false, .bool false]) ?_ 3 _ rfl; (with_reducible repeat (first | refine blk_drewN ?_ _ | refine blk_drew ?_ | refine blk_alloc ?_ _)); refine blk_put (cs := #[.int .i64 a0_0, .int .i64 x102001_2, .int .i64 0, .int .i64 0, .int .i64 0, .bool false, .bool false]) ?_ 2 _ rfl; (with_reducible repeat (first | refine blk_drewN ?_ _ | refine blk_drew ?_ | refine blk_alloc ?_ _)); refine blk_put (cs := #[.int .i64 a0_0, .int .i64 0, .int .i64 0, .int .i64 0, .int .i64 0, .bool false, .bool false]) ?_ 1 _ rfl; (with_reducible repeat (first | refine blk_drewN ?_ _ | refine blk_drew ?_ | refine blk_alloc ?_ _)); refine blk_put (cs := #[.int .i64 0, .int .i64 0, .int .i64 0, .int .i64 0, .int .i64 0, .bool false, .bool false]) ?_ 0 _ rfl; (with_reducible repeat (first | refine blk_drewN ?_ _ | refine blk_drew ?_ | refine blk_alloc ?_ _)); refine blk_far ?_ NB102_101.out _; (with_reducible repeat (first | refine blk_drewN ?_ _ | refine blk_drew ?_ | refine blk_alloc ?_ _)); exact BK102.out) Tryz.underlying50 rfl (by kernel_rfl)) rfl ?_
       exact ⟨fe, bs2 HB GE101 GE102⟩
     ·rw [if_neg c13] at H
      obtain ⟨c13b0, c13b1⟩ := bqf c13
      by_cases c21 : (Go.bits .and .i64 a1 16) = 0
      ·rw [if_pos c21] at H
       obtain ⟨c21b0, c21b1⟩ := bqt c21
       clear c21
       simp only [Option.some.injEq, Prod.mk.injEq] at H
       obtain ⟨rfl, rfl, rfl, rfl, rfl, rfl, rfl⟩ := H
       have hnb22 := NB101_102.out
       have hnc22 := NB102_101.out
       obtain ⟨z23_0, z23_1, z23_2, z23_3, z23_4, z23_5, z23_6, f23_0, f23_1, f23_2, f23_3, f23_4, f23_5, f23_6⟩ := cf7 BK101
       obtain ⟨z24_0, z24_1, z24_2, z24_3, z24_4, z24_5, z24_6, f24_0, f24_1, f24_2, f24_3, f24_4, f24_5, f24_6⟩ := cf7 BK102
       go_wp2
       refine bodyPost_ret (results_cell_row rfl _ _ gb102 50 #[.int .i64 a0_0, .int .i64 x102001_2, .int .i64 x102002_8, .int .i64 a0_3, .int .i64 a0_4, .bool false, .bool false] (0, 0) _ rfl (by (with_reducible repeat (first | refine blk_drewN ?_ _ | refine blk_drew ?_ | refine blk_alloc ?_ _)); refine blk_put (cs := #[.int .i64 a0_0, .int .i64 x102001_2, .int .i64 x102002_8, .int .i64 a0_3, .int .i64 a0_4, .bool false, .bool false]) ?_ 6 _ rfl; (with_reducible repeat (first | refine blk_drewN ?_ _ | refine blk_drew ?_ | refine blk_alloc ?_ _)); refine blk_put (cs := #[.int .i64 a0_0, .int .i64 x102001_2, .int .i64 x102002_8, .int .i64 a0_3, .int .i64 a0_4, .bool false, .bool false]) ?_ 5 _ rfl; (with_reducible repeat (first | refine blk_drewN ?_ _ | refine blk_drew ?_ | refine blk_alloc ?_ _)); refine blk_put (cs := #[.int .i64 a0_0, .int .i64 x102001_2, .int .i64 x102002_8, .int .i64 a0_3, .int .i64 0, .bool false, .bool false]) ?_ 4 _ rfl; (with_reducible repeat (first | refine blk_drewN ?_ _ | refine blk_drew ?_ | refine blk_alloc ?_ _)); refine blk_put (cs := #[.int .i64 a0_0, .int .i64 x102001_2, .int .i64 x102002_8, .int .i64 0, .int .i64 0, .bool false, .bool false]) ?_ 3 _ rfl; (with_reducible repeat (first | refine blk_drewN ?_ _ | refine blk_drew ?_ | refine blk_alloc ?_ _)); refine blk_put (cs := #[.int .i64 a0_0, .int .i64 x102001_2, .int .i64 0, .int .i64 0, .int .i64 0, .bool false, .bool false]) ?_ 2 _ rfl; (with_reducible repeat (first | refine blk_drewN ?_ _ | refine blk_drew ?_ | refine blk_alloc ?_ _)); refine blk_put (cs := #[.int .i64 a0_0, .int .i64 0, .int .i64 0, .int .i64 0, .int .i64 0, .bool false, .bool false]) ?_ 1 _ rfl; (with_reducible repeat (first | refine blk_drewN ?_ _ | refine blk_drew ?_ | refine blk_alloc ?_ _)); refine blk_put (cs := #[.int .i64 0, .int .i64 0, .int .i64 0, .int .i64 0, .int .i64 0, .bool false, .bool false]) ?_ 0 _ rfl; (with_reducible repeat (first | refine blk_drewN ?_ _ | refine blk_drew ?_ | refine blk_alloc ?_ _)); refine blk_far ?_ NB102_101.out _; (with_reducible repeat (first | refine blk_drewN ?_ _ | refine blk_drew ?_ | refine blk_alloc ?_ _)); refine blk_far ?_ NB102_101.out _; (with_reducible repeat (first | refine blk_drewN ?_ _ | refine blk_drew ?_ | refine blk_alloc ?_ _)); exact BK102.out) Tryz.underlying50 rfl (by kernel_rfl)) rfl ?_
       exact ⟨fe, bs2 HB GE101 GE102⟩
      ·rw [if_neg c21] at H
       obtain ⟨c21b0, c21b1⟩ := bqf c21
       simp only [Option.some.injEq, Prod.mk.injEq] at H
       obtain ⟨rfl, rfl, rfl, rfl, rfl, rfl, rfl⟩ := H
       have hnb25 := NB101_102.out
       have hnc25 := NB102_101.out
       obtain ⟨z26_0, z26_1, z26_2, z26_3, z26_4, z26_5, z26_6, f26_0, f26_1, f26_2, f26_3, f26_4, f26_5, f26_6⟩ := cf7 BK101
       obtain ⟨z27_0, z27_1, z27_2, z27_3, z27_4, z27_5, z27_6, f27_0, f27_1, f27_2, f27_3, f27_4, f27_5, f27_6⟩ := cf7 BK102
       go_wp2
       refine bodyPost_ret (results_cell_row rfl _ _ gb102 50 #[.int .i64 a0_0, .int .i64 x102001_2, .int .i64 x102002_8, .int .i64 a0_3, .int .i64 a0_4, .bool a0_5, .bool a0_6] (0, 0) _ rfl (by (with_reducible repeat (first | refine blk_drewN ?_ _ | refine blk_drew ?_ | refine blk_alloc ?_ _)); refine blk_put (cs := #[.int .i64 a0_0, .int .i64 x102001_2, .int .i64 x102002_8, .int .i64 a0_3, .int .i64 a0_4, .bool a0_5, .bool false]) ?_ 6 _ rfl; (with_reducible repeat (first | refine blk_drewN ?_ _ | refine blk_drew ?_ | refine blk_alloc ?_ _)); refine blk_put (cs := #[.int .i64 a0_0, .int .i64 x102001_2, .int .i64 x102002_8, .int .i64 a0_3, .int .i64 a0_4, .bool false, .bool false]) ?_ 5 _ rfl; (with_reducible repeat (first | refine blk_drewN ?_ _ | refine blk_drew ?_ | refine blk_alloc ?_ _)); refine blk_put (cs := #[.int .i64 a0_0, .int .i64 x102001_2, .int .i64 x102002_8, .int .i64 a0_3, .int .i64 0, .bool false, .bool false]) ?_ 4 _ rfl; (with_reducible repeat (first | refine blk_drewN ?_ _ | refine blk_drew ?_ | refine blk_alloc ?_ _)); refine blk_put (cs := #[.int .i64 a0_0, .int .i64 x102001_2, .int .i64 x102002_8, .int .i64 0, .int .i64 0, .bool false, .bool false]) ?_ 3 _ rfl; (with_reducible repeat (first | refine blk_drewN ?_ _ | refine blk_drew ?_ | refine blk_alloc ?_ _)); refine blk_put (cs := #[.int .i64 a0_0, .int .i64 x102001_2, .int .i64 0, .int .i64 0, .int .i64 0, .bool false, .bool false]) ?_ 2 _ rfl; (with_reducible repeat (first | refine blk_drewN ?_ _ | refine blk_drew ?_ | refine blk_alloc ?_ _)); refine blk_put (cs := #[.int .i64 a0_0, .int .i64 0, .int .i64 0, .int .i64 0, .int .i64 0, .bool false, .bool false]) ?_ 1 _ rfl; (with_reducible repeat (first | refine blk_drewN ?_ _ | refine blk_drew ?_ | refine blk_alloc ?_ _)); refine blk_put (cs := #[.int .i64 0, .int .i64 0, .int .i64 0, .int .i64 0, .int .i64 0, .bool false, .bool false]) ?_ 0 _ rfl; (with_reducible repeat (first | refine blk_drewN ?_ _ | refine blk_drew ?_ | refine blk_alloc ?_ _)); exact BK102.out) Tryz.underlying50 rfl (by kernel_rfl)) rfl ?_
       exact ⟨fe, bs2 HB GE101 GE102⟩
def inst_kept.f (a0_0 : Int) (a0_1 : Int) (a0_2 : Int) (a0_3 : Int) (a0_4 : Int) (a0_5 : Bool) (a0_6 : Bool) (a1 : Int) : Option (Int × Int × Int × Int × Int × Bool × Bool) :=
 if 0 ≤ a1 ∧ a1 < 32 then some (a0_0, keep (a1 % 2 == 1) a0_1, keep (a1 / 2 % 2 == 1) a0_2, keep (a1 / 4 % 2 == 1) a0_3, a0_4, a1 / 16 % 2 == 1 && a0_5, a1 / 16 % 2 == 1 && a0_6) else none
theorem and32 : ∀ n : Nat, n < 32 → Go.bits .and .i64 (n : Int) 1 = (n : Int) % 2 ∧ Go.bits .and .i64 (n : Int) 2 = (n : Int) / 2 % 2 * 2 ∧ Go.bits .and .i64 (n : Int) 4 = (n : Int) / 4 % 2 * 4 ∧ Go.bits .and .i64 (n : Int) 16 = (n : Int) / 16 % 2 * 16 := by decide +kernel
theorem inst_kept.spec (a0_0 : Int) (a0_1 : Int) (a0_2 : Int) (a0_3 : Int) (a0_4 : Int) (a0_5 : Bool) (a0_6 : Bool) (a1 : Int) (r1 r2 r3 r4 r5 : Int) (r6 r7 : Bool) (h : inst_kept.f a0_0 a0_1 a0_2 a0_3 a0_4 a0_5 a0_6 a1 = some (r1, r2, r3, r4, r5, r6, r7)) : ∃ k, inst_kept0.f k a0_0 a0_1 a0_2 a0_3 a0_4 a0_5 a0_6 a1 = some (r1, r2, r3, r4, r5, r6, r7) := by
 unfold inst_kept.f at h
 by_cases hr : 0 ≤ a1 ∧ a1 < 32
 ·rw [if_pos hr] at h
  rw [← h]
  clear h
  obtain ⟨n, rfl⟩ := Int.eq_ofNat_of_zero_le hr.1
  obtain ⟨e1, e2, e3, e4⟩ := and32 n (by omega)
  refine ⟨2, ?_⟩
  unfold inst_kept0.f
  simp only [inst_kept0.j0, inst_kept0.j1, e1, e2, e3, e4, keep, beq_iff_eq]
  have f1 : (n : Int) % 2 = 0 ∨ (n : Int) % 2 = 1 := by omega
  have f2 : (n : Int) / 2 % 2 = 0 ∨ (n : Int) / 2 % 2 = 1 := by omega
  have f3 : (n : Int) / 4 % 2 = 0 ∨ (n : Int) / 4 % 2 = 1 := by omega
  have f4 : (n : Int) / 16 % 2 = 0 ∨ (n : Int) / 16 % 2 = 1 := by omega
  rcases f1 with f1 | f1 <;> rcases f2 with f2 | f2 <;> rcases f3 with f3 | f3 <;> rcases f4 with f4 | f4 <;> simp [f1, f2, f3, f4]
 ·rw [if_neg hr] at h; exact absurd h (by simp)
theorem inst_kept.calls (a0_0 : Int) (a0_1 : Int) (a0_2 : Int) (a0_3 : Int) (a0_4 : Int) (a0_5 : Bool) (a0_6 : Bool) (a1 : Int) (r1 : Int) (r2 : Int) (r3 : Int) (r4 : Int) (r5 : Int) (r6 : Bool) (r7 : Bool) (w : World) (h : inst_kept.f a0_0 a0_1 a0_2 a0_3 a0_4 a0_5 a0_6 a1 = some (r1, r2, r3, r4, r5, r6, r7)) :
  Calls Tryz.prog 75 #[.agg #[.int .i64 a0_0, .int .i64 a0_1, .int .i64 a0_2, .int .i64 a0_3, .int .i64 a0_4, .bool a0_5, .bool a0_6], .int .i64 a1] w fun e w' => e = .returned (.agg #[.int .i64 r1, .int .i64 r2, .int .i64 r3, .int .i64 r4, .int .i64 r5, .bool r6, .bool r7]) ∧ Below w.heap.size w w' := by
 obtain ⟨k, hk⟩ := inst_kept.spec a0_0 a0_1 a0_2 a0_3 a0_4 a0_5 a0_6 a1 r1 r2 r3 r4 r5 r6 r7 h
 exact inst_kept0.calls k a0_0 a0_1 a0_2 a0_3 a0_4 a0_5 a0_6 a1 r1 r2 r3 r4 r5 r6 r7 w hk
mutual
def inst_fields0.j0 : Nat → Int → Int → Bool → Option (Int)
 | 0, _, _, _ => none
 | k + 1, x2, x3, x4 => if x4 = true then (some 9) else (if x3 = 3 then (inst_fields0.j1 k x2 x3 (x3 == 3)) else (if x3 = 6 then (inst_fields0.j1 k x2 x3 (x3 == 6)) else (inst_fields0.j1 k x2 x3 (x3 == 7))))
def inst_fields0.j1 : Nat → Int → Int → Bool → Option (Int)
 | 0, _, _, _ => none
 | k + 1, x2, x3, x7 => if x7 = true then (some 11) else (if x3 = 4 then (inst_fields0.j2 k x2 x3 (x3 == 4)) else (inst_fields0.j2 k x2 x3 (x3 == 5)))
def inst_fields0.j2 : Nat → Int → Int → Bool → Option (Int)
 | 0, _, _, _ => none
 | k + 1, x2, x3, x11 => if x11 = true then (some 14) else (if x3 = 8 then (some 7) else (if x3 = 9 then (some 8) else (if x3 = 12 then (some (Go.bits .or .i64 4 19)) else (if x3 = 11 then (some (Go.bits .or .i64 x2 19)) else (some x2)))))
end
def inst_fields0.f (k : Nat) (a0 : Int) : Option (Int) := if a0 = 1 then (inst_fields0.j0 k 0 a0 (a0 == 1)) else (inst_fields0.j0 k 0 a0 (a0 == 2))
theorem inst_fields0.mono_l : ∀ k, (∀ y0 y1 y2, LeO (inst_fields0.j0 k y0 y1 y2) (inst_fields0.j0 (k + 1) y0 y1 y2)) ∧ (∀ y0 y1 y2, LeO (inst_fields0.j1 k y0 y1 y2) (inst_fields0.j1 (k + 1) y0 y1 y2)) ∧ (∀ y0 y1 y2, LeO (inst_fields0.j2 k y0 y1 y2) (inst_fields0.j2 (k + 1) y0 y1 y2))
 | 0 => ⟨fun _ _ _ r h => by simp [inst_fields0.j0] at h, fun _ _ _ r h => by simp [inst_fields0.j1] at h, fun _ _ _ r h => by simp [inst_fields0.j2] at h⟩
 | k + 1 => by
  obtain ⟨ih0, ih1, ih2⟩ := inst_fields0.mono_l k
  refine ⟨?_, ?_, ?_⟩
  ·intro y0 y1 y2
   unfold inst_fields0.j0
   exact leo
  ·intro y0 y1 y2
   unfold inst_fields0.j1
   exact leo
  ·intro y0 y1 y2
   unfold inst_fields0.j2
   exact leo
theorem inst_fields0.mono : ∀ a0 k, LeO (inst_fields0.f k a0) (inst_fields0.f (k + 1) a0) := by
 intro a0 k
 obtain ⟨ih0, ih1, ih2⟩ := inst_fields0.mono_l k
 unfold inst_fields0.f
 exact leo
set_option maxHeartbeats 8000000 in
set_option maxRecDepth 100000 in
theorem inst_fields0.calls (k : Nat) (a0 : Int) (r : Int) (w : World) (h : inst_fields0.f k a0 = some r) :
  Calls Tryz.prog 76 #[.int .i64 a0] w fun e w' => e = .returned (.int .i64 r) ∧ Drawn0 w w' := by
 have H := h
 clear h
 unfold inst_fields0.f at H
 have HC2 := am H
 clear H
 go_enter Tryz.func76, Tryz.ntmps76
 go_upto_if 4 with (fail)
 go_cut [4] (fun v4 wc => ∃ (kq : Nat) (x4_1 : Bool), v4 = .bool x4_1 ∧ Aside0 (inst_fields0.j0 kq 0 a0 x4_1 = some r) ∧ Aside0 (kq ≤ k) ∧ Drawn0 w wc)
 case first =>
  have H := HC2.out
  clear HC2
  by_cases c3 : a0 = 1
  ·rw [if_pos c3] at H
   obtain ⟨c3b0, c3b1⟩ := bqt c3
   clear c3
   (first | rw [c3b0] | (simp only [i64_w, i32_w]; rw [c3b0]) | skip)
   have H' := am H
   clear H
   go_wp2
   go_meet
   case rel => exact ⟨_, ((a0 == 1)), fr, H', ⟨om⟩, dd⟩
  ·rw [if_neg c3] at H
   obtain ⟨c3b0, c3b1⟩ := bqf c3
   (first | rw [c3b0] | (simp only [i64_w, i32_w]; rw [c3b0]) | skip)
   have H' := am H
   clear H
   go_wp2
   go_meet
   case rel => exact ⟨_, ((a0 == 2)), fr, H', ⟨om⟩, dd⟩
 case rest =>
  clear HC2
  try clear p2
  try clear c3
  try clear c3b0
  try clear c3b1
  obtain ⟨kq, x4_1, rfl, HA, HJ1, ⟨mc1, rfl⟩⟩ := hcut
  cases kq with
  | zero => exact absurd HA.out (by simp [inst_fields0.j0])
  | succ kj1 =>
   have H := HA.out
   clear HA
   simp only [inst_fields0.j0] at H
   by_cases c4 : x4_1 = true
   ·subst c4
    rw [if_pos rfl] at H
    obtain rfl := Option.some.inj H
    go_wp2
    go_ret
    exact fd
   ·replace c4 := Bool.eq_false_iff.mpr c4
    subst c4
    rw [if_neg ff] at H
    have HC5 := am H
    clear H
    go_upto_if 7 with (fail)
    go_cut [7] (fun v7 wc => ∃ (kq : Nat) (x7_4 : Bool), v7 = .bool x7_4 ∧ Aside0 (inst_fields0.j1 kq 0 a0 x7_4 = some r) ∧ Aside0 (kq ≤ kj1) ∧ Drawn0 w wc)
    case first =>
     have H := HC5.out
     clear HC5
     by_cases c6 : a0 = 3
     ·rw [if_pos c6] at H
      obtain ⟨c6b0, c6b1⟩ := bqt c6
      clear c6
      (first | rw [c6b0] | (simp only [i64_w, i32_w]; rw [c6b0]) | skip)
      have H' := am H
      clear H
      go_wp2
      go_meet
      case rel => exact ⟨_, ((a0 == 3)), fr, H', ⟨by have := HJ1.out; first | omega | exact Nat.le_refl _⟩, dd⟩
     ·rw [if_neg c6] at H
      obtain ⟨c6b0, c6b1⟩ := bqf c6
      (first | rw [c6b0] | (simp only [i64_w, i32_w]; rw [c6b0]) | skip)
      by_cases c7 : a0 = 6
      ·rw [if_pos c7] at H
       obtain ⟨c7b0, c7b1⟩ := bqt c7
       clear c7
       have H' := am H
       clear H
       go_wp2
       go_meet
       case rel => exact ⟨_, ((a0 == 6)), fr, H', ⟨by have := HJ1.out; first | omega | exact Nat.le_refl _⟩, dd⟩
      ·rw [if_neg c7] at H
       obtain ⟨c7b0, c7b1⟩ := bqf c7
       have H' := am H
       clear H
       go_wp2
       go_meet
       case rel => exact ⟨_, ((a0 == 7)), fr, H', ⟨by have := HJ1.out; first | omega | exact Nat.le_refl _⟩, dd⟩
    case rest =>
     clear HC5
     try clear c1
     try clear p2
     try clear c3
     try clear c3b0
     try clear c3b1
     try clear c4
     try clear c6
     try clear c6b0
     try clear c6b1
     try clear c7
     try clear c7b0
     try clear c7b1
     try clear p2
     obtain ⟨kq, x7_4, rfl, HA, HJ4, ⟨mc4, rfl⟩⟩ := hcut
     cases kq with
     | zero => exact absurd HA.out (by simp [inst_fields0.j1])
     | succ kj4 =>
      have H := HA.out
      clear HA
      simp only [inst_fields0.j1] at H
      by_cases c8 : x7_4 = true
      ·subst c8
       rw [if_pos rfl] at H
       obtain rfl := Option.some.inj H
       go_wp2
       go_ret
       exact fd
      ·replace c8 := Bool.eq_false_iff.mpr c8
       subst c8
       rw [if_neg ff] at H
       have HC9 := am H
       clear H
       go_upto_if 11 with (fail)
       go_cut [11] (fun v11 wc => ∃ (kq : Nat) (x11_8 : Bool), v11 = .bool x11_8 ∧ Aside0 (inst_fields0.j2 kq 0 a0 x11_8 = some r) ∧ Aside0 (kq ≤ kj4) ∧ Drawn0 w wc)
       case first =>
        have H := HC9.out
        clear HC9
        by_cases c10 : a0 = 4
        ·rw [if_pos c10] at H
         obtain ⟨c10b0, c10b1⟩ := bqt c10
         clear c10
         (first | rw [c10b0] | (simp only [i64_w, i32_w]; rw [c10b0]) | skip)
         have H' := am H
         clear H
         go_wp2
         go_meet
         case rel => exact ⟨_, ((a0 == 4)), fr, H', ⟨by have := HJ1.out; have := HJ4.out; first | omega | exact Nat.le_refl _⟩, dd⟩
        ·rw [if_neg c10] at H
         obtain ⟨c10b0, c10b1⟩ := bqf c10
         (first | rw [c10b0] | (simp only [i64_w, i32_w]; rw [c10b0]) | skip)
         have H' := am H
         clear H
         go_wp2
         go_meet
         case rel => exact ⟨_, ((a0 == 5)), fr, H', ⟨by have := HJ1.out; have := HJ4.out; first | omega | exact Nat.le_refl _⟩, dd⟩
       case rest =>
        clear HC9
        try clear c1
        try clear p2
        try clear c3
        try clear c3b0
        try clear c3b1
        try clear c4
        try clear c6
        try clear c6b0
        try clear c6b1
        try clear c7
        try clear c7b0
        try clear c7b1
        try clear c8
        try clear c10
        try clear c10b0
        try clear c10b1
        try clear p2
        obtain ⟨kq, x11_8, rfl, HA, HJ8, ⟨mc8, rfl⟩⟩ := hcut
        cases kq with
        | zero => exact absurd HA.out (by simp [inst_fields0.j2])
        | succ kj8 =>
         have H := HA.out
         clear HA
         simp only [inst_fields0.j2] at H
         by_cases c11 : x11_8 = true
         ·subst c11
          rw [if_pos rfl] at H
          obtain rfl := Option.some.inj H
          go_wp2
          go_ret
          exact fd
         ·replace c11 := Bool.eq_false_iff.mpr c11
          subst c11
          rw [if_neg ff] at H
          by_cases c12 : a0 = 8
          ·rw [if_pos c12] at H
           obtain ⟨c12b0, c12b1⟩ := bqt c12
           clear c12
           obtain rfl := Option.some.inj H
           go_wp2
           go_ret
           exact fd
          ·rw [if_neg c12] at H
           obtain ⟨c12b0, c12b1⟩ := bqf c12
           by_cases c13 : a0 = 9
           ·rw [if_pos c13] at H
            obtain ⟨c13b0, c13b1⟩ := bqt c13
            clear c13
            obtain rfl := Option.some.inj H
            go_wp2
            go_ret
            exact fd
           ·rw [if_neg c13] at H
            obtain ⟨c13b0, c13b1⟩ := bqf c13
            by_cases c14 : a0 = 12
            ·rw [if_pos c14] at H
             obtain ⟨c14b0, c14b1⟩ := bqt c14
             clear c14
             obtain rfl := Option.some.inj H
             go_wp2
             go_ret
             exact fd
            ·rw [if_neg c14] at H
             obtain ⟨c14b0, c14b1⟩ := bqf c14
             by_cases c15 : a0 = 11
             ·rw [if_pos c15] at H
              obtain ⟨c15b0, c15b1⟩ := bqt c15
              clear c15
              obtain rfl := Option.some.inj H
              go_wp2
              go_ret
              exact fd
             ·rw [if_neg c15] at H
              obtain ⟨c15b0, c15b1⟩ := bqf c15
              obtain rfl := Option.some.inj H
              go_wp2
              go_ret
              exact fd
def inst_fields.f (a0 : Int) : Option (Int) := some (fieldsOf a0)
theorem inst_fields.spec (a0 r : Int) (h : inst_fields.f a0 = some r) : ∃ k, inst_fields0.f k a0 = some r := by
 obtain rfl := Option.some.inj h
 refine ⟨3, ?_⟩
 by_cases h1 : a0 = 1
 ·subst h1; decide +kernel
 by_cases h2 : a0 = 2
 ·subst h2; decide +kernel
 by_cases h3 : a0 = 3
 ·subst h3; decide +kernel
 by_cases h6 : a0 = 6
 ·subst h6; decide +kernel
 by_cases h7 : a0 = 7
 ·subst h7; decide +kernel
 by_cases h4 : a0 = 4
 ·subst h4; decide +kernel
 by_cases h5 : a0 = 5
 ·subst h5; decide +kernel
 by_cases h8 : a0 = 8
 ·subst h8; decide +kernel
 by_cases h9 : a0 = 9
 ·subst h9; decide +kernel
 by_cases h12 : a0 = 12
 ·subst h12; decide +kernel
 by_cases h11 : a0 = 11
 ·subst h11; decide +kernel
 simp [inst_fields0.f, inst_fields0.j0, inst_fields0.j1, inst_fields0.j2, fieldsOf, h1, h2, h3, h6, h7, h4, h5, h8, h9, h12, h11]
theorem inst_fields.calls (a0 : Int) (r : Int) (w : World) (h : inst_fields.f a0 = some r) :
  Calls Tryz.prog 76 #[.int .i64 a0] w fun e w' => e = .returned (.int .i64 r) ∧ Drawn0 w w' := by
 obtain ⟨k, hk⟩ := inst_fields.spec a0 r h
 exact inst_fields0.calls k a0 r w hk
attribute [local go_sem high] eqA50
def inst_within.f (a0 : Int) (a1 : Int) : Option (Bool) := if a0 ≥ 0 then (some (decide (a0 ≤ a1))) else (some false)
set_option maxHeartbeats 8000000 in
set_option maxRecDepth 100000 in
theorem inst_within.calls (a0 : Int) (a1 : Int) (r : Bool) (w : World) (h : inst_within.f a0 a1 = some r) :
  Calls Tryz.prog 77 #[.int .i64 a0, .int .i64 a1] w fun e w' => e = .returned (.bool r) ∧ Drawn0 w w' := by
 have H := h
 clear h
 unfold inst_within.f at H
 by_cases c3 : a0 ≥ 0
 ·rw [if_pos c3] at H
  have c3b0 : decide (0 ≤ a0) = true := decide_eq_true c3
  clear c3
  obtain rfl := Option.some.inj H
  go_enter Tryz.func77, Tryz.ntmps77
  go_wp2
  go_ret
  exact fd
 ·rw [if_neg c3] at H
  have c3b0 : decide (0 ≤ a0) = false := decide_eq_false c3
  clear c3
  obtain rfl := Option.some.inj H
  go_enter Tryz.func77, Tryz.ntmps77
  go_wp2
  go_ret
  exact fd
def bits_Sign0.f (a0 : Int) (a1 : Int) : Option (Int) := if a1 < 1 then (some a0) else (if a1 ≥ 64 then (some a0) else (if 0 ≤ (wrap64 (64 - a1)) then (some (IntKind.u64.wrap (shr .i64 (wrap64 (shl .u64 a0 (wrap64 (64 - a1)))) (wrap64 (64 - a1))))) else (none)))
set_option maxHeartbeats 8000000 in
set_option maxRecDepth 100000 in
theorem bits_Sign0.calls (a0 : Int) (a1 : Int) (r : Int) (w : World) (h : bits_Sign0.f a0 a1 = some r) :
  Calls Tryz.prog 58 #[.int .u64 a0, .int .i64 a1] w fun e w' => e = .returned (.int .u64 r) ∧ Drawn0 w w' := by
 have H := h
 clear h
 unfold bits_Sign0.f at H
 by_cases c3 : a1 < 1
 ·rw [if_pos c3] at H
  have c3b0 : decide (a1 < 1) = true := decide_eq_true c3
  clear c3
  obtain rfl := Option.some.inj H
  go_enter Tryz.func58, Tryz.ntmps58
  go_wp2
  go_ret
  exact fd
 ·rw [if_neg c3] at H
  have c3b0 : decide (a1 < 1) = false := decide_eq_false c3
  clear c3
  by_cases c4 : a1 ≥ 64
  ·rw [if_pos c4] at H
   have c4b0 : decide (64 ≤ a1) = true := decide_eq_true c4
   clear c4
   obtain rfl := Option.some.inj H
   go_enter Tryz.func58, Tryz.ntmps58
   go_wp2
   go_ret
   exact fd
  ·rw [if_neg c4] at H
   have c4b0 : decide (64 ≤ a1) = false := decide_eq_false c4
   clear c4
   obtain ⟨ji5, hji5⟩ : ∃ j_ : Int, (wrap64 (64 - a1)) = j_ := ⟨_, rfl⟩
   replace H : (if 0 ≤ (ji5) then (some (IntKind.u64.wrap (shr .i64 (wrap64 (shl .u64 a0 (ji5))) (ji5)))) else (none)) = some r := by first | (rw [hji5] at H; exact H) | (simp only [hji5] at H ⊢; exact H)
   have hji5w : (IntKind.i64.wrap (64 - a1)) = ji5 := (i64_w _).trans hji5
   by_cases c6 : 0 ≤ (ji5)
   ·rw [if_pos c6] at H
    have c6b0 := eq_true c6
    have c6b1 : decide (0 ≤ (ji5)) = true := decide_eq_true c6
    clear c6
    obtain ⟨ji7, hji7⟩ : ∃ j_ : Int, (shl .u64 a0 (ji5)) = j_ := ⟨_, rfl⟩
    replace H : (some (IntKind.u64.wrap (shr .i64 (wrap64 (ji7)) (ji5)))) = some r := by first | (rw [hji7] at H; exact H) | (simp only [hji7] at H ⊢; exact H)
    have hji7_ : (IntKind.u64.wrap (a0 * 2 ^ min (ji5).toNat 64)) = ji7 := hji7
    have hji7z : (ji5) ≤ 64 → (IntKind.u64.wrap (a0 * 2 ^ (ji5).toNat)) = ji7 := shl_small hji7
    have c8b0 := eq_true (of_decide_eq_true (by first | (with_reducible assumption) | assumption) : 0 ≤ (ji5))
    obtain ⟨ji9, hji9⟩ : ∃ j_ : Int, (shr .i64 (wrap64 (ji7)) (ji5)) = j_ := ⟨_, rfl⟩
    replace H : (some (IntKind.u64.wrap (ji9))) = some r := by first | (rw [hji9] at H; exact H) | (simp only [hji9] at H ⊢; exact H)
    have hji9_ : ((wrap64 (ji7)) / 2 ^ min (ji5).toNat 64) = ji9 := hji9
    have hji9z : (ji5) ≤ 64 → ((wrap64 (ji7)) / 2 ^ (ji5).toNat) = ji9 := shr_small hji9
    obtain rfl := Option.some.inj H
    go_enter Tryz.func58, Tryz.ntmps58
    go_wp2
    go_ret
    exact ⟨by first | rfl | (simp; done) | (simp only [← hji5, ← hji7, ← hji9] <;> (first | rfl | simp)) | (simp [*]; done), dd⟩
   ·rw [if_neg c6] at H
    exact absurd H (by simp)
def bits_Sign.f (a0 : Int) (a1 : Int) : Option (Int) := if U64 a0 then some (signOf a0 a1) else none
theorem bits_Sign.spec (a0 a1 r : Int) (h : bits_Sign.f a0 a1 = some r) : bits_Sign0.f a0 a1 = some r := by
 unfold bits_Sign.f at h
 by_cases hu : U64 a0
 ·rw [if_pos hu] at h
  obtain rfl := Option.some.inj h
  unfold bits_Sign0.f
  by_cases h1 : a1 < 1
  ·rw [if_pos h1, signOf, if_pos (Or.inl h1)]
  ·rw [if_neg h1]
   by_cases h2 : a1 ≥ 64
   ·rw [if_pos h2, signOf, if_pos (Or.inr (by omega))]
   ·obtain ⟨n, rfl⟩ : ∃ n : Nat, a1 = n := ⟨a1.toNat, by omega⟩
    have e : wrap64 (64 - (n : Int)) = ((64 - n : Nat) : Int) := by rw [I64.wrap_eq (by unfold I64; omega)]; omega
    rw [if_neg h2, e, if_pos (by omega), ← sign_shift a0 hu n (by omega) (by omega)]
    unfold shl shr
    rw [Int.toNat_natCast, Nat.min_eq_left (show 64 - n ≤ IntKind.u64.bits by show _ ≤ 64; omega), Nat.min_eq_left (show 64 - n ≤ IntKind.i64.bits by show _ ≤ 64; omega)]
 ·rw [if_neg hu] at h; exact absurd h (by simp)
theorem bits_Sign.eq {a0 : Int} (h : U64 a0) (a1 : Int) : bits_Sign.f a0 a1 = some (signOf a0 a1) := if_pos h
theorem bits_Sign.calls (a0 : Int) (a1 : Int) (r : Int) (w : World) (h : bits_Sign.f a0 a1 = some r) :
  Calls Tryz.prog 58 #[.int .u64 a0, .int .i64 a1] w fun e w' => e = .returned (.int .u64 r) ∧ Drawn0 w w' := by
 have hk := bits_Sign.spec a0 a1 r h
 exact bits_Sign0.calls a0 a1 r w hk
def bits_Fits0.f (a0 : Int) (a1 : Int) : Option (Bool) := if a1 ≥ 64 then (some true) else (if a1 ≥ 1 then ((bits_Sign.f (IntKind.u64.wrap (a0)) a1).bind fun t103 => (some (t103 == (IntKind.u64.wrap (a0))))) else (some false))
set_option maxHeartbeats 8000000 in
set_option maxRecDepth 100000 in
theorem bits_Fits0.calls (a0 : Int) (a1 : Int) (r : Bool) (w : World) (h : bits_Fits0.f a0 a1 = some r) :
  Calls Tryz.prog 112 #[.int .i64 a0, .int .i64 a1] w fun e w' => e = .returned (.bool r) ∧ Drawn0 w w' := by
 have H := h
 clear h
 unfold bits_Fits0.f at H
 by_cases c3 : a1 ≥ 64
 ·rw [if_pos c3] at H
  have c3b0 : decide (64 ≤ a1) = true := decide_eq_true c3
  clear c3
  obtain rfl := Option.some.inj H
  go_enter Tryz.func112, Tryz.ntmps112
  go_wp2
  go_ret
  exact fd
 ·rw [if_neg c3] at H
  have c3b0 : decide (64 ≤ a1) = false := decide_eq_false c3
  clear c3
  by_cases c4 : a1 ≥ 1
  ·rw [if_pos c4] at H
   have c4b0 : decide (1 ≤ a1) = true := decide_eq_true c4
   clear c4
   obtain ⟨t103, A5, H⟩ := bam H
   try dsimp only at H
   obtain rfl := Option.some.inj H
   go_enter Tryz.func112, Tryz.ntmps112
   go_wp2_with (first | (go_at_call 58; (with_reducible refine (bits_Sign.calls (IntKind.u64.wrap (a0)) a1 t103 _ A5.out).mono ?_); rintro e w' ⟨rfl, ⟨nd, rfl⟩⟩))
   go_ret
   exact fd
  ·rw [if_neg c4] at H
   have c4b0 : decide (1 ≤ a1) = false := decide_eq_false c4
   clear c4
   obtain rfl := Option.some.inj H
   go_enter Tryz.func112, Tryz.ntmps112
   go_wp2
   go_ret
   exact fd
def bits_Fits.f (a0 : Int) (a1 : Int) : Option (Bool) := if I64 a0 then some (fitsOf a0 a1) else none
theorem bits_Fits.spec (a0 a1 : Int) (r : Bool) (h : bits_Fits.f a0 a1 = some r) : bits_Fits0.f a0 a1 = some r := by
 unfold bits_Fits.f at h
 by_cases hu : I64 a0
 ·rw [if_pos hu] at h
  obtain rfl := Option.some.inj h
  unfold bits_Fits0.f
  by_cases h2 : a1 ≥ 64
  ·rw [if_pos h2, fitsOf, decide_eq_true ⟨by omega, fun h => by omega⟩]
  ·rw [if_neg h2]
   by_cases h1 : a1 ≥ 1
   ·obtain ⟨n, rfl⟩ : ∃ n : Nat, a1 = n := ⟨a1.toNat, by omega⟩
    rw [if_pos h1, bits_Sign.eq (U64.wrap _)]
    simp only [Option.bind_some]
    rw [fits_sign a0 hu n (by omega) (by omega)]
   ·rw [if_neg h1, fitsOf, decide_eq_false (by omega)]
 ·rw [if_neg hu] at h; exact absurd h (by simp)
theorem bits_Fits.eq {a0 : Int} (h : I64 a0) (a1 : Int) : bits_Fits.f a0 a1 = some (fitsOf a0 a1) := if_pos h
theorem bits_Fits.calls (a0 : Int) (a1 : Int) (r : Bool) (w : World) (h : bits_Fits.f a0 a1 = some r) :
  Calls Tryz.prog 112 #[.int .i64 a0, .int .i64 a1] w fun e w' => e = .returned (.bool r) ∧ Drawn0 w w' := by
 have hk := bits_Fits.spec a0 a1 r h
 exact bits_Fits0.calls a0 a1 r w hk
def inst_may0.j0 : Nat → Int → Int → Bool → Option (Bool)
 | 0, _, _, _ => none
 | k + 1, x1, x5, x33 => if x33 = true then ((bits_Fits.f x1 12).bind fun t107 => (some t107)) else (if x5 = 6 then ((inst_within.f x1 63).bind fun t108 => (some t108)) else (if x5 = 7 then ((inst_within.f x1 31).bind fun t109 => (some t109)) else (if x5 = 9 then ((inst_within.f x1 255).bind fun t110 => (some t110)) else (some (x1 == 0)))))
def inst_may0.f (k : Nat) (a0 : Int) (a1 : Int) : Option (Bool) := if a0 = 1 then (if (Int.tmod a1 4096) = 0 then ((bits_Fits.f a1 32).bind fun t104 => (some t104)) else (some false)) else (if a0 = 2 then (if (Int.tmod a1 2) = 0 then ((bits_Fits.f a1 21).bind fun t105 => (some t105)) else (some false)) else (if a0 = 4 then (if (Int.tmod a1 2) = 0 then ((bits_Fits.f a1 13).bind fun t106 => (some t106)) else (some false)) else (if a0 = 3 then (inst_may0.j0 k a1 a0 (a0 == 3)) else (inst_may0.j0 k a1 a0 (a0 == 5)))))
theorem inst_may0.mono_l : ∀ k, (∀ y0 y1 y2, LeO (inst_may0.j0 k y0 y1 y2) (inst_may0.j0 (k + 1) y0 y1 y2))
 | 0 => fun _ _ _ r h => by simp [inst_may0.j0] at h
 | k + 1 => by
  have ih0 := inst_may0.mono_l k
  ·intro y0 y1 y2
   unfold inst_may0.j0
   exact leo
theorem inst_may0.mono : ∀ a0 a1 k, LeO (inst_may0.f k a0 a1) (inst_may0.f (k + 1) a0 a1) := by
 intro a0 a1 k
 have ih0 := inst_may0.mono_l k
 unfold inst_may0.f
 exact leo
set_option maxHeartbeats 8000000 in
set_option maxRecDepth 100000 in
theorem inst_may0.calls (k : Nat) (a0 : Int) (a1 : Int) (r : Bool) (w : World) (h : inst_may0.f k a0 a1 = some r) :
  Calls Tryz.prog 78 #[.int .i64 a0, .int .i64 a1] w fun e w' => e = .returned (.bool r) ∧ Drawn0 w w' := by
 have H := h
 clear h
 unfold inst_may0.f at H
 by_cases c3 : a0 = 1
 ·rw [if_pos c3] at H
  obtain ⟨c3b0, c3b1⟩ := bqt c3
  clear c3
  by_cases c4 : (Int.tmod a1 4096) = 0
  ·rw [if_pos c4] at H
   obtain ⟨c4b0, c4b1⟩ := bqt c4
   clear c4
   replace H := Option.bind_eq_some_iff.mp H
   obtain ⟨t104, A50, H⟩ := H
   replace H : (some t104) = some r := H
   have A5 := am A50
   clear A50
   obtain rfl := Option.some.inj H
   go_enter Tryz.func78, Tryz.ntmps78
   go_wp2_with (first | (go_at_call 112; (with_reducible refine (bits_Fits.calls a1 32 t104 _ A5.out).mono ?_); rintro e w' ⟨rfl, ⟨nd, rfl⟩⟩))
   go_ret
   exact fd
  ·rw [if_neg c4] at H
   obtain ⟨c4b0, c4b1⟩ := bqf c4
   obtain rfl := Option.some.inj H
   go_enter Tryz.func78, Tryz.ntmps78
   go_wp2
   go_ret
   exact fd
 ·rw [if_neg c3] at H
  obtain ⟨c3b0, c3b1⟩ := bqf c3
  by_cases c6 : a0 = 2
  ·rw [if_pos c6] at H
   obtain ⟨c6b0, c6b1⟩ := bqt c6
   clear c6
   by_cases c7 : (Int.tmod a1 2) = 0
   ·rw [if_pos c7] at H
    obtain ⟨c7b0, c7b1⟩ := bqt c7
    clear c7
    replace H := Option.bind_eq_some_iff.mp H
    obtain ⟨t105, A80, H⟩ := H
    replace H : (some t105) = some r := H
    have A8 := am A80
    clear A80
    obtain rfl := Option.some.inj H
    go_enter Tryz.func78, Tryz.ntmps78
    go_wp2_with (first | (go_at_call 112; (with_reducible refine (bits_Fits.calls a1 21 t105 _ A8.out).mono ?_); rintro e w' ⟨rfl, ⟨nd, rfl⟩⟩))
    go_ret
    exact fd
   ·rw [if_neg c7] at H
    obtain ⟨c7b0, c7b1⟩ := bqf c7
    obtain rfl := Option.some.inj H
    go_enter Tryz.func78, Tryz.ntmps78
    go_wp2
    go_ret
    exact fd
  ·rw [if_neg c6] at H
   obtain ⟨c6b0, c6b1⟩ := bqf c6
   by_cases c9 : a0 = 4
   ·rw [if_pos c9] at H
    obtain ⟨c9b0, c9b1⟩ := bqt c9
    clear c9
    by_cases c10 : (Int.tmod a1 2) = 0
    ·rw [if_pos c10] at H
     obtain ⟨c10b0, c10b1⟩ := bqt c10
     clear c10
     replace H := Option.bind_eq_some_iff.mp H
     obtain ⟨t106, A110, H⟩ := H
     replace H : (some t106) = some r := H
     have A11 := am A110
     clear A110
     obtain rfl := Option.some.inj H
     go_enter Tryz.func78, Tryz.ntmps78
     go_wp2_with (first | (go_at_call 112; (with_reducible refine (bits_Fits.calls a1 13 t106 _ A11.out).mono ?_); rintro e w' ⟨rfl, ⟨nd, rfl⟩⟩))
     go_ret
     exact fd
    ·rw [if_neg c10] at H
     obtain ⟨c10b0, c10b1⟩ := bqf c10
     obtain rfl := Option.some.inj H
     go_enter Tryz.func78, Tryz.ntmps78
     go_wp2
     go_ret
     exact fd
   ·rw [if_neg c9] at H
    obtain ⟨c9b0, c9b1⟩ := bqf c9
    have HC12 := am H
    clear H
    go_enter Tryz.func78, Tryz.ntmps78
    go_upto_if 33 with (fail)
    go_cut [33] (fun v33 wc => ∃ (kq : Nat) (x33_11 : Bool), v33 = .bool x33_11 ∧ Aside0 (inst_may0.j0 kq a1 a0 x33_11 = some r) ∧ Aside0 (kq ≤ k) ∧ Drawn0 w wc)
    case first =>
     have H := HC12.out
     clear HC12
     by_cases c13 : a0 = 3
     ·rw [if_pos c13] at H
      obtain ⟨c13b0, c13b1⟩ := bqt c13
      clear c13
      (first | rw [c13b0] | (simp only [i64_w, i32_w]; rw [c13b0]) | skip)
      have H' := am H
      clear H
      go_wp2
      go_meet
      case rel => exact ⟨_, ((a0 == 3)), fr, H', ⟨om⟩, dd⟩
     ·rw [if_neg c13] at H
      obtain ⟨c13b0, c13b1⟩ := bqf c13
      (first | rw [c13b0] | (simp only [i64_w, i32_w]; rw [c13b0]) | skip)
      have H' := am H
      clear H
      go_wp2
      go_meet
      case rel => exact ⟨_, ((a0 == 5)), fr, H', ⟨om⟩, dd⟩
    case rest =>
     clear HC12
     try clear c1
     try clear p2
     try clear c3
     try clear c3b0
     try clear c3b1
     try clear c4
     try clear c4b0
     try clear c4b1
     try clear c6
     try clear c6b0
     try clear c6b1
     try clear c7
     try clear c7b0
     try clear c7b1
     try clear c9
     try clear c9b0
     try clear c9b1
     try clear c10
     try clear c10b0
     try clear c10b1
     try clear c13
     try clear c13b0
     try clear c13b1
     obtain ⟨kq, x33_11, rfl, HA, HJ11, ⟨mc11, rfl⟩⟩ := hcut
     cases kq with
     | zero => exact absurd HA.out (by simp [inst_may0.j0])
     | succ kj11 =>
      have H := HA.out
      clear HA
      simp only [inst_may0.j0] at H
      by_cases c14 : x33_11 = true
      ·subst c14
       rw [if_pos rfl] at H
       replace H := Option.bind_eq_some_iff.mp H
       obtain ⟨t107, A150, H⟩ := H
       replace H : (some t107) = some r := H
       have A15 := am A150
       clear A150
       obtain rfl := Option.some.inj H
       go_wp2_with (first | ((with_reducible refine gate_callee (f := 112) rfl ?_); refine gl (some 37) rfl rfl Tryz.func112 rfl #[.int .i64 a1, .int .i64 12] rfl ?_; (with_reducible refine (bits_Fits.calls a1 12 t107 _ A15.out).mono ?_); rintro e w' ⟨rfl, ⟨nd, rfl⟩⟩; refine ⟨_, rfl, ?_⟩))
       go_ret
       exact fd
      ·replace c14 := Bool.eq_false_iff.mpr c14
       subst c14
       rw [if_neg ff] at H
       by_cases c16 : a0 = 6
       ·rw [if_pos c16] at H
        obtain ⟨c16b0, c16b1⟩ := bqt c16
        clear c16
        replace H := Option.bind_eq_some_iff.mp H
        obtain ⟨t108, A170, H⟩ := H
        replace H : (some t108) = some r := H
        have A17 := am A170
        clear A170
        obtain rfl := Option.some.inj H
        go_wp2_with (first | ((with_reducible refine gate_callee (f := 77) rfl ?_); refine gl (some 41) rfl rfl Tryz.func77 rfl #[.int .i64 a1, .int .i64 63] rfl ?_; (with_reducible refine (inst_within.calls a1 63 t108 _ A17.out).mono ?_); rintro e w' ⟨rfl, ⟨nd, rfl⟩⟩; refine ⟨_, rfl, ?_⟩))
        go_ret
        exact fd
       ·rw [if_neg c16] at H
        obtain ⟨c16b0, c16b1⟩ := bqf c16
        by_cases c18 : a0 = 7
        ·rw [if_pos c18] at H
         obtain ⟨c18b0, c18b1⟩ := bqt c18
         clear c18
         replace H := Option.bind_eq_some_iff.mp H
         obtain ⟨t109, A190, H⟩ := H
         replace H : (some t109) = some r := H
         have A19 := am A190
         clear A190
         obtain rfl := Option.some.inj H
         go_wp2_with (first | ((with_reducible refine gate_callee (f := 77) rfl ?_); refine gl (some 45) rfl rfl Tryz.func77 rfl #[.int .i64 a1, .int .i64 31] rfl ?_; (with_reducible refine (inst_within.calls a1 31 t109 _ A19.out).mono ?_); rintro e w' ⟨rfl, ⟨nd, rfl⟩⟩; refine ⟨_, rfl, ?_⟩))
         go_ret
         exact fd
        ·rw [if_neg c18] at H
         obtain ⟨c18b0, c18b1⟩ := bqf c18
         by_cases c20 : a0 = 9
         ·rw [if_pos c20] at H
          obtain ⟨c20b0, c20b1⟩ := bqt c20
          clear c20
          replace H := Option.bind_eq_some_iff.mp H
          obtain ⟨t110, A210, H⟩ := H
          replace H : (some t110) = some r := H
          have A21 := am A210
          clear A210
          obtain rfl := Option.some.inj H
          go_wp2_with (first | ((with_reducible refine gate_callee (f := 77) rfl ?_); refine gl (some 49) rfl rfl Tryz.func77 rfl #[.int .i64 a1, .int .i64 255] rfl ?_; (with_reducible refine (inst_within.calls a1 255 t110 _ A21.out).mono ?_); rintro e w' ⟨rfl, ⟨nd, rfl⟩⟩; refine ⟨_, rfl, ?_⟩))
          go_ret
          exact fd
         ·rw [if_neg c20] at H
          obtain ⟨c20b0, c20b1⟩ := bqf c20
          obtain rfl := Option.some.inj H
          go_wp2
          go_ret
          exact fd
def inst_may.f (a0 : Int) (a1 : Int) : Option (Bool) := if I64 a1 then some (immOf a0 a1) else none
theorem inst_may.spec (a0 a1 : Int) (r : Bool) (h : inst_may.f a0 a1 = some r) : ∃ k, inst_may0.f k a0 a1 = some r := by
 unfold inst_may.f at h
 by_cases hI : I64 a1
 ·rw [if_pos hI] at h
  obtain rfl := Option.some.inj h
  refine ⟨1, ?_⟩
  unfold inst_may0.f
  simp only [inst_may0.j0, bits_Fits.f, if_pos hI, inst_within.f, Option.bind_some, tmod0, immOf, beq_iff_eq]
  repeat' split
  all_goals simp_all
  all_goals omega
 ·rw [if_neg hI] at h; exact absurd h (by simp)
theorem inst_may.calls (a0 : Int) (a1 : Int) (r : Bool) (w : World) (h : inst_may.f a0 a1 = some r) :
  Calls Tryz.prog 78 #[.int .i64 a0, .int .i64 a1] w fun e w' => e = .returned (.bool r) ∧ Drawn0 w w' := by
 obtain ⟨k, hk⟩ := inst_may.spec a0 a1 r h
 exact inst_may0.calls k a0 a1 r w hk
set_option maxHeartbeats 2000000 in
theorem inst_Good.w (a0_0 a0_1 a0_2 a0_3 a0_4 f c x3 x7 m r2 r3 r4 : Int) (a0_5 a0_6 r6 r7 p1 p2 p3 p4 p5 p6 : Bool) (w : World)
  (hO : Hid (∀ W, Calls Tryz.prog 40 #[.int .i64 a0_0] W fun e w' => e = .returned (.agg #[.int .i64 f, .int .i64 c, .int .i64 x3, .int .i64 x7]) ∧ Below W.heap.size W w'))
  (hF : Hid (∀ W, Calls Tryz.prog 76 #[.int .i64 f] W fun e w' => e = .returned (.int .i64 m) ∧ Below W.heap.size W w'))
  (hK : Hid (∀ W, Calls Tryz.prog 75 #[.agg #[.int .i64 a0_0, .int .i64 a0_1, .int .i64 a0_2, .int .i64 a0_3, .int .i64 a0_4, .bool a0_5, .bool a0_6], .int .i64 m] W fun e w' => e = .returned (.agg #[.int .i64 a0_0, .int .i64 r2, .int .i64 r3, .int .i64 r4, .int .i64 a0_4, .bool r6, .bool r7]) ∧ Below W.heap.size W w'))
  (h3 : Hid (∀ W, Calls Tryz.prog 77 #[.int .i64 a0_1, .int .i64 31] W fun e w' => e = .returned (.bool p3) ∧ Below W.heap.size W w'))
  (h4 : Hid (∀ W, Calls Tryz.prog 77 #[.int .i64 a0_2, .int .i64 31] W fun e w' => e = .returned (.bool p4) ∧ Below W.heap.size W w'))
  (h5 : Hid (∀ W, Calls Tryz.prog 77 #[.int .i64 a0_3, .int .i64 31] W fun e w' => e = .returned (.bool p5) ∧ Below W.heap.size W w'))
  (h6 : Hid (∀ W, Calls Tryz.prog 78 #[.int .i64 f, .int .i64 a0_4] W fun e w' => e = .returned (.bool p6) ∧ Below W.heap.size W w'))
  (q1 : Hid (decide (0 < f) = p1)) (q2 : Hid ((a0_1 == r2 && (a0_2 == r3 && (a0_3 == r4 && (a0_5 == r6 && a0_6 == r7)))) = p2)) :
  Calls Tryz.prog 39 #[.agg #[.int .i64 a0_0, .int .i64 a0_1, .int .i64 a0_2, .int .i64 a0_3, .int .i64 a0_4, .bool a0_5, .bool a0_6]] w fun e w' => e = .returned (.bool (p1 && (p2 && (p3 && (p4 && (p5 && p6)))))) ∧ Below w.heap.size w w' := by
 have cs : p1 = false ∨ p1 = true ∧ p2 = false ∨ p1 = true ∧ p2 = true ∧ p3 = false ∨ p1 = true ∧ p2 = true ∧ p3 = true ∧ p4 = false ∨ p1 = true ∧ p2 = true ∧ p3 = true ∧ p4 = true ∧ p5 = false ∨ p1 = true ∧ p2 = true ∧ p3 = true ∧ p4 = true ∧ p5 = true := by
  cases p1 <;> cases p2 <;> cases p3 <;> cases p4 <;> cases p5 <;> simp
 have hu := Tryz.underlying50
 rcases cs with rfl | ⟨rfl, rfl⟩ | ⟨rfl, rfl, rfl⟩ | ⟨rfl, rfl, rfl, rfl⟩ | ⟨rfl, rfl, rfl, rfl, rfl⟩ | ⟨rfl, rfl, rfl, rfl, rfl⟩
 all_goals (
  go_enter Tryz.func39, Tryz.ntmps39
  go_wp2_with fail
  refine (hO.out _).mono ?_
  rintro e w1 ⟨rfl, hb⟩
  have B1 := (Blk.new w _ _).below hb
  have hb := Lib.hid ((((Below.refl w.heap.size w).alloc (Nat.le_refl _) _).trans (hb.mono (by simp))))
  have c1 := B1.cell
  have l1 := B1.lt
  have B1 := Lib.hid B1
  go_wp2_with fail
  generalize hX : World.alloc w1 _ = X
  have K1 := B1.out.alloc_eq hX
  have K2 := Blk.new_eq hX
  have HX := Lib.hid (below_alloc_eq hb.out hb.out.size hX)
  clear hX c1 l1 B1 hb
  have k1 := K1.gcell
  have k2 := K2.gcell
  have q1 := q1.out
  have q2 := q2.out
  refine wp_region_quiet_below (by kernel_rfl) (by kernel_rfl) ?_
  repeat (first | go_big_quiet_step ((first | (go_at_call 76; exact in_grow hF.out _ _) | (go_at_call 75; exact in_grow hK.out _ _) | (go_at_call 77; with_reducible first | exact in_grow h3.out _ _ | exact in_grow h4.out _ _ | exact in_grow h5.out _ _) | (go_at_call 78; exact in_grow h6.out _ _))) | quiet_step ((first | (go_at_call 76; exact in_grow hF.out _ _) | (go_at_call 75; exact in_grow hK.out _ _) | (go_at_call 77; with_reducible first | exact in_grow h3.out _ _ | exact in_grow h4.out _ _ | exact in_grow h5.out _ _) | (go_at_call 78; exact in_grow h6.out _ _))))
  refine wpQuiet_nil ?_
  intro _ hw'
  obtain ⟨⟨dq, osq⟩, hw''⟩ := hw'
  subst hw''
  go_wp2
  go_ret
  exact ⟨rfl, HX.out.trans ((below_regrown X dq osq).mono HX.out.size)⟩)
def inst_Good.f (a0_0 : Int) (a0_1 : Int) (a0_2 : Int) (a0_3 : Int) (a0_4 : Int) (a0_5 : Bool) (a0_6 : Bool) : Option (Bool) := if I64 a0_4 then some (goodOf a0_0 a0_1 a0_2 a0_3 a0_4 a0_5 a0_6) else none
theorem inst_Good.calls (a0_0 : Int) (a0_1 : Int) (a0_2 : Int) (a0_3 : Int) (a0_4 : Int) (a0_5 : Bool) (a0_6 : Bool) (r : Bool) (w : World) (h : inst_Good.f a0_0 a0_1 a0_2 a0_3 a0_4 a0_5 a0_6 = some r) :
  Calls Tryz.prog 39 #[.agg #[.int .i64 a0_0, .int .i64 a0_1, .int .i64 a0_2, .int .i64 a0_3, .int .i64 a0_4, .bool a0_5, .bool a0_6]] w fun e w' => e = .returned (.bool r) ∧ Below w.heap.size w w' := by
 unfold inst_Good.f at h
 by_cases hI : I64 a0_4
 case neg => rw [if_neg hI] at h; simp at h
 rw [if_pos hI] at h
 obtain rfl := Option.some.inj h
 obtain ⟨k1, k2, k3, k4, k5, k6⟩ := fields_has (formOf a0_0)
 refine (inst_Good.w a0_0 a0_1 a0_2 a0_3 a0_4 (formOf a0_0) (codeOf a0_0) (f3Of a0_0) (f7Of a0_0) (fieldsOf (formOf a0_0)) _ _ _ a0_5 a0_6 _ _ _ _ (decide (0 ≤ a0_1 ∧ a0_1 ≤ 31)) (decide (0 ≤ a0_2 ∧ a0_2 ≤ 31)) (decide (0 ≤ a0_3 ∧ a0_3 ≤ 31)) (immOf (formOf a0_0) a0_4) w
  (fun W => inst_of.calls a0_0 _ _ _ _ W rfl) (fun W => (inst_fields.calls (formOf a0_0) _ W rfl).mono fun _ _ ⟨h1, h2⟩ => ⟨h1, h2.below⟩)
  (fun W => inst_kept.calls a0_0 a0_1 a0_2 a0_3 a0_4 a0_5 a0_6 (fieldsOf (formOf a0_0)) _ _ _ _ _ _ _ W (by unfold inst_kept.f; rw [if_pos ⟨k5, k6⟩]))
  (fun W => (inst_within.calls a0_1 31 _ W (by unfold inst_within.f; by_cases h : 0 ≤ a0_1 <;> simp [h])).mono fun _ _ ⟨h1, h2⟩ => ⟨h1, h2.below⟩)
  (fun W => (inst_within.calls a0_2 31 _ W (by unfold inst_within.f; by_cases h : 0 ≤ a0_2 <;> simp [h])).mono fun _ _ ⟨h1, h2⟩ => ⟨h1, h2.below⟩)
  (fun W => (inst_within.calls a0_3 31 _ W (by unfold inst_within.f; by_cases h : 0 ≤ a0_3 <;> simp [h])).mono fun _ _ ⟨h1, h2⟩ => ⟨h1, h2.below⟩)
  (fun W => (inst_may.calls (formOf a0_0) a0_4 _ W (by unfold inst_may.f; rw [if_pos hI])).mono fun _ _ ⟨h1, h2⟩ => ⟨h1, h2.below⟩)
  rfl rfl).mono ?_
 rintro e w' ⟨rfl, hb⟩
 refine ⟨?_, hb⟩
 congr 2
 rw [k1, k2, k3, k4]
 unfold goodOf regOf keep
 have kz : ∀ (b : Bool) (r : Int), (r == (if b = true then r else 0)) = (b || r == 0) := by intro b r; cases b <;> simp
 have zp : ∀ r : Int, (r == 0) = true → decide (0 ≤ r ∧ r ≤ 31) = true := by intro r h; have := eq_of_beq h; subst this; rfl
 have zp1 := zp a0_1
 have zp2 := zp a0_2
 have zp3 := zp a0_3
 simp only [kz]
 generalize hasRd (formOf a0_0) = b1
 generalize hasRs1 (formOf a0_0) = b2
 generalize hasRs2 (formOf a0_0) = b3
 generalize hasAq (formOf a0_0) = b4
 generalize immOf (formOf a0_0) a0_4 = b5
 generalize decide (0 < formOf a0_0) = b6
 generalize (a0_1 == 0) = z1 at *
 generalize (a0_2 == 0) = z2 at *
 generalize (a0_3 == 0) = z3 at *
 generalize decide (0 ≤ a0_1 ∧ a0_1 ≤ 31) = p1 at *
 generalize decide (0 ≤ a0_2 ∧ a0_2 ≤ 31) = p2 at *
 generalize decide (0 ≤ a0_3 ∧ a0_3 ≤ 31) = p3 at *
 clear k1 k2 k3 k4 k5 k6 hI h hb kz zp
 revert zp1 zp2 zp3
 clear a0_0 a0_1 a0_2 a0_3 a0_4 w w'
 revert b1 b2 b3 b4 b5 b6 z1 z2 z3 p1 p2 p3 a0_5 a0_6
 decide +kernel
def inst_row_high0.j0 : Nat → Int → Bool → Int → Int → Int → Int → Option (Int)
 | 0, _, _, _, _, _, _ => none
 | k + 1, x4, x5, x112000, x112001, x112002, x112003 => if x5 = true then (some (IntKind.u64.wrap ((IntKind.u64.wrap (x112003)) * 33554432))) else (if x4 = 10 then (some (IntKind.u64.wrap ((IntKind.u64.wrap (x112003)) * 1048576))) else (if x4 = 11 then (some (IntKind.u64.wrap ((IntKind.u64.wrap (x112003)) * 134217728))) else (if x4 = 12 then (some (IntKind.u64.wrap ((IntKind.u64.wrap (x112003)) * 134217728))) else (some 0))))
def inst_row_high0.f (k : Nat) (a0_0 : Int) (a0_1 : Int) (a0_2 : Int) (a0_3 : Int) : Option (Int) := if a0_0 = 6 then (inst_row_high0.j0 k a0_0 (a0_0 == 6) a0_0 a0_1 a0_2 a0_3) else (if a0_0 = 7 then (inst_row_high0.j0 k a0_0 (a0_0 == 7) a0_0 a0_1 a0_2 a0_3) else (inst_row_high0.j0 k a0_0 (a0_0 == 8) a0_0 a0_1 a0_2 a0_3))
theorem inst_row_high0.mono_l : ∀ k, (∀ y0 y1 y2 y3 y4 y5, LeO (inst_row_high0.j0 k y0 y1 y2 y3 y4 y5) (inst_row_high0.j0 (k + 1) y0 y1 y2 y3 y4 y5))
 | 0 => fun _ _ _ _ _ _ r h => by simp [inst_row_high0.j0] at h
 | k + 1 => by
  have ih0 := inst_row_high0.mono_l k
  ·intro y0 y1 y2 y3 y4 y5
   unfold inst_row_high0.j0
   exact leo
theorem inst_row_high0.mono : ∀ a0 a1 a2 a3 k, LeO (inst_row_high0.f k a0 a1 a2 a3) (inst_row_high0.f (k + 1) a0 a1 a2 a3) := by
 intro a0 a1 a2 a3 k
 have ih0 := inst_row_high0.mono_l k
 unfold inst_row_high0.f
 exact leo
set_option maxHeartbeats 8000000 in
set_option maxRecDepth 100000 in
theorem inst_row_high0.calls (k : Nat) (a0_0 : Int) (a0_1 : Int) (a0_2 : Int) (a0_3 : Int) (r : Int) (w : World) (h : inst_row_high0.f k a0_0 a0_1 a0_2 a0_3 = some r) :
  Calls Tryz.prog 41 #[.agg #[.int .i64 a0_0, .int .i64 a0_1, .int .i64 a0_2, .int .i64 a0_3]] w fun e w' => e = .returned (.int .u64 r) ∧ Below w.heap.size w w' := by
 have hu87 := Tryz.underlying87
 have HB := am (Below.refl w.heap.size w)
 have H := h
 clear h
 unfold inst_row_high0.f at H
 have HC2 := am H
 clear H
 go_enter Tryz.func41, Tryz.ntmps41
 go_upto_if 5 with (first | ((with_reducible refine gate_dst (N := 1) rfl ?_); refine be 1 87 #[.int .i64 a0_0, .int .i64 a0_1, .int .i64 a0_2, .int .i64 a0_3] ?_; intro gb111 hg w3 hbox hb; have BK111 := am hbox; have GW111 := bz HB hg; have GE111 := bz HB hg; replace HB := bn HB hb; clear hb hbox hg; obtain ⟨z4_0, z4_1, z4_2, z4_3, f4_0, f4_1, f4_2, f4_3⟩ := cf4 BK111))
 (try simp only [Act.put, List.setIfInBounds_toArray, List.set_cons_zero, List.set_cons_succ])
 go_cut [5] (fun v5 wc => ∃ (kq : Nat) (x5_1 : Bool), v5 = .bool x5_1 ∧ Aside0 (inst_row_high0.j0 kq a0_0 x5_1 a0_0 a0_1 a0_2 a0_3 = some r) ∧ Aside0 (kq ≤ k) ∧ Aside0 (wc.heap[gb111]? = some (.cells #[.int .i64 a0_0, .int .i64 a0_1, .int .i64 a0_2, .int .i64 a0_3] 87 (0, 0))) ∧ Aside0 (Below w.heap.size w wc))
 case first =>
  have H := HC2.out
  clear HC2
  by_cases c5 : a0_0 = 6
  ·rw [if_pos c5] at H
   obtain ⟨c5b0, c5b1⟩ := bqt c5
   clear c5
   (first | rw [c5b0] | (simp only [i64_w, i32_w]; rw [c5b0]) | skip)
   have H' := am H
   clear H
   go_wp2
   go_meet
   case rel => exact ⟨_, ((a0_0 == 6)), fr, H', ⟨om⟩, ⟨bu BK111⟩, ⟨bs HB GE111⟩⟩
  ·rw [if_neg c5] at H
   obtain ⟨c5b0, c5b1⟩ := bqf c5
   (first | rw [c5b0] | (simp only [i64_w, i32_w]; rw [c5b0]) | skip)
   by_cases c6 : a0_0 = 7
   ·rw [if_pos c6] at H
    obtain ⟨c6b0, c6b1⟩ := bqt c6
    clear c6
    have H' := am H
    clear H
    go_wp2
    go_meet
    case rel => exact ⟨_, ((a0_0 == 7)), fr, H', ⟨om⟩, ⟨bu BK111⟩, ⟨bs HB GE111⟩⟩
   ·rw [if_neg c6] at H
    obtain ⟨c6b0, c6b1⟩ := bqf c6
    have H' := am H
    clear H
    go_wp2
    go_meet
    case rel => exact ⟨_, ((a0_0 == 8)), fr, H', ⟨om⟩, ⟨bu BK111⟩, ⟨bs HB GE111⟩⟩
 case rest =>
  clear HC2
  try clear p2
  try clear c4
  try clear c5
  try clear c5b0
  try clear c5b1
  try clear c6
  try clear c6b0
  try clear c6b1
  try clear z4_0
  try clear z4_1
  try clear z4_2
  try clear z4_3
  try clear f4_0
  try clear f4_1
  try clear f4_2
  try clear f4_3
  obtain ⟨kq, x5_1, rfl, HA, HJ1, BK111, HB⟩ := hcut
  cases kq with
  | zero => exact absurd HA.out (by simp [inst_row_high0.j0])
  | succ kj1 =>
   have H := HA.out
   clear HA
   simp only [inst_row_high0.j0] at H
   by_cases c7 : x5_1 = true
   ·subst c7
    rw [if_pos rfl] at H
    obtain rfl := Option.some.inj H
    obtain ⟨z8_0, z8_1, z8_2, z8_3, f8_0, f8_1, f8_2, f8_3⟩ := cf4 BK111
    go_wp2
    go_ret
    exact ⟨fe, bs HB GE111⟩
   ·replace c7 := Bool.eq_false_iff.mpr c7
    subst c7
    rw [if_neg ff] at H
    by_cases c9 : a0_0 = 10
    ·rw [if_pos c9] at H
     obtain ⟨c9b0, c9b1⟩ := bqt c9
     clear c9
     obtain rfl := Option.some.inj H
     obtain ⟨z10_0, z10_1, z10_2, z10_3, f10_0, f10_1, f10_2, f10_3⟩ := cf4 BK111
     go_wp2
     go_ret
     exact ⟨fe, bs HB GE111⟩
    ·rw [if_neg c9] at H
     obtain ⟨c9b0, c9b1⟩ := bqf c9
     by_cases c11 : a0_0 = 11
     ·rw [if_pos c11] at H
      obtain ⟨c11b0, c11b1⟩ := bqt c11
      clear c11
      obtain rfl := Option.some.inj H
      obtain ⟨z12_0, z12_1, z12_2, z12_3, f12_0, f12_1, f12_2, f12_3⟩ := cf4 BK111
      go_wp2
      go_ret
      exact ⟨fe, bs HB GE111⟩
     ·rw [if_neg c11] at H
      obtain ⟨c11b0, c11b1⟩ := bqf c11
      by_cases c13 : a0_0 = 12
      ·rw [if_pos c13] at H
       obtain ⟨c13b0, c13b1⟩ := bqt c13
       clear c13
       obtain rfl := Option.some.inj H
       obtain ⟨z14_0, z14_1, z14_2, z14_3, f14_0, f14_1, f14_2, f14_3⟩ := cf4 BK111
       go_wp2
       go_ret
       exact ⟨fe, bs HB GE111⟩
      ·rw [if_neg c13] at H
       obtain ⟨c13b0, c13b1⟩ := bqf c13
       obtain rfl := Option.some.inj H
       go_wp2
       go_ret
       exact ⟨fe, bs HB GE111⟩
def inst_row_high.f (a0_0 : Int) (a0_1 : Int) (a0_2 : Int) (a0_3 : Int) : Option (Int) := if 0 ≤ a0_3 ∧ a0_3 < 128 ∧ ((a0_0 = 11 ∨ a0_0 = 12) → a0_3 < 32) then some (highOf a0_0 a0_3) else none
theorem inst_row_high.spec (a0_0 a0_1 a0_2 a0_3 r : Int) (h : inst_row_high.f a0_0 a0_1 a0_2 a0_3 = some r) : ∃ k, inst_row_high0.f k a0_0 a0_1 a0_2 a0_3 = some r := by
 unfold inst_row_high.f at h
 by_cases hr : 0 ≤ a0_3 ∧ a0_3 < 128 ∧ ((a0_0 = 11 ∨ a0_0 = 12) → a0_3 < 32)
 ·rw [if_pos hr] at h
  obtain rfl := Option.some.inj h
  refine ⟨1, ?_⟩
  unfold inst_row_high0.f
  have e1 : IntKind.u64.wrap a0_3 = a0_3 := by rw [u64w]; omega
  have e2 : IntKind.u64.wrap (a0_3 * 33554432) = a0_3 * 33554432 := by rw [u64w]; omega
  have e3 : IntKind.u64.wrap (a0_3 * 1048576) = a0_3 * 1048576 := by rw [u64w]; omega
  have e4 : IntKind.u64.wrap (a0_3 * 134217728) = a0_3 * 134217728 := by rw [u64w]; omega
  simp only [inst_row_high0.j0, highOf, e1, e2, e3, e4, beq_iff_eq]
  by_cases h1 : a0_0 = 6
  ·simp [h1]
  by_cases h2 : a0_0 = 7
  ·simp [h2]
  by_cases h3 : a0_0 = 8
  ·simp [h3]
  by_cases h4 : a0_0 = 10
  ·simp [h4]
  by_cases h5 : a0_0 = 11
  ·simp [h5]
  by_cases h6 : a0_0 = 12
  ·simp [h6]
  simp [h1, h2, h3, h4, h5, h6]
 ·rw [if_neg hr] at h; exact absurd h (by simp)
theorem inst_row_high.calls (a0_0 : Int) (a0_1 : Int) (a0_2 : Int) (a0_3 : Int) (r : Int) (w : World) (h : inst_row_high.f a0_0 a0_1 a0_2 a0_3 = some r) :
  Calls Tryz.prog 41 #[.agg #[.int .i64 a0_0, .int .i64 a0_1, .int .i64 a0_2, .int .i64 a0_3]] w fun e w' => e = .returned (.int .u64 r) ∧ Below w.heap.size w w' := by
 obtain ⟨k, hk⟩ := inst_row_high.spec a0_0 a0_1 a0_2 a0_3 r h
 exact inst_row_high0.calls k a0_0 a0_1 a0_2 a0_3 r w hk
end Go.Proofs.YtcjfafhbohkhlaaGreat.PAll
