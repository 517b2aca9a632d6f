/- DERIVED. The contracts of the Go functions that one law reaches: each call returns what the plain function beside it says, under that theorem's own premises. Written by a program (hp.py) over the kit's printed words. -/
import Derived.Test.YtihcljaphajdfaaGreatDoorPAllx0
namespace Go.Proofs.YtihcljaphajdfaaGreatDoor.PAll
open Go.RowKit Go.Proofs.YtihcljaphajdfaaGreatDoorW.PrintWords Go.Proofs.YtihcljaphajdfaaGreatDoorW.PrintLast Go.Proofs.YtihcljaphajdfaaGreatDoorW.PrintMore Go.Proofs.YtihcljaphajdfaaGreatDoor.M
attribute [local go_sem] max2_int min2_int max_two min_two max_three min_three max_four min_four   -- for this text's walks alone
set_option linter.unusedVariables false
set_option linter.unusedSimpArgs false

-- NOT PRINTED: function 83 (strconv_ParseUint)

-- NOT PRINTED: function 67 (strconv_ParseInt)

-- NOT PRINTED: function 58 (strconv_Atoi_58)

-- NOT PRINTED: function 84 (stringslite_Clone)

-- NOT PRINTED: function 68 (strconv_syntaxError)

-- NOT PRINTED: function 69 (strconv_rangeError)

-- NOT PRINTED: function 85 (errors_New)

-- NOT PRINTED: function 70 (strconv_baseError)

-- NOT PRINTED: function 71 (strconv_bitSizeError)

-- NOT PRINTED: function 59 (strconv_toError)

-- NOT PRINTED: function 41 (strconv_Atoi_41)

-- NOT PRINTED: function 22 (listing_number)

-- NOT PRINTED: function 20 (listing_Parse_1)

-- NOT PRINTED: function 10 (listing_Parse)

-- NOT PRINTED: function 4 (postbaglaw03_lives)

-- NOT PRINTED: function 48 (stringslite_Cut)

-- NOT PRINTED: function 29 (strings_Cut)

-- NOT PRINTED: function 28 (listing_lines_1)

-- NOT PRINTED: function 12 (listing_lines)

-- NOT PRINTED: function 5 (listing_Read)

/-! ### postbagref02_Row: function 36 -/
def postbagref02_Row.f (a0 : Int) : Option (Int × Int × Int × Int) := some (formOf a0, codeOf a0, f3Of a0, f7Of a0)
set_option maxHeartbeats 8000000 in
set_option maxRecDepth 20000 in
theorem postbagref02_Row.c (a0 : Int) (w : World) :
    Calls Tryz.prog 36 #[.int .i64 a0] w fun e w' => e = .returned (.agg #[.int .i64 (formOf a0), .int .i64 (codeOf a0), .int .i64 (f3Of a0), .int .i64 (f7Of a0)]) ∧ Below w.heap.size w w' := by
  have hz : ∀ W, (zeroValue 89).run Tryz.prog W = .ok (.agg (Array.replicate 348 (.int .i64 0))) W := fun _ => by kernel_rfl
  go_enter Tryz.func36, Tryz.ntmps36
  iterate 11 go_step
  generalize (List.toArray (List.append _ _)) = OPS
  refine wpList_builds_take 88 _ _ _ { tmps := #[.int .i64 a0, undef, .pointer (some ⟨w.heap.size, 0, none⟩), undef, instRow 0, instRow 1, instRow 2, instRow 3, instRow 4, instRow 5, instRow 6, instRow 7, instRow 8, instRow 9, instRow 10, instRow 11, instRow 12, instRow 13, instRow 14, instRow 15, instRow 16, instRow 17, instRow 18, instRow 19, instRow 20, instRow 21, instRow 22, instRow 23, instRow 24, instRow 25, instRow 26, instRow 27, instRow 28, instRow 29, instRow 30, instRow 31, instRow 32, instRow 33, instRow 34, instRow 35, instRow 36, instRow 37, instRow 38, instRow 39, instRow 40, instRow 41, instRow 42, instRow 43, instRow 44, instRow 45, instRow 46, instRow 47, instRow 48, instRow 49, instRow 50, instRow 51, instRow 52, instRow 53, instRow 54, instRow 55, instRow 56, instRow 57, instRow 58, instRow 59, instRow 60, instRow 61, instRow 62, instRow 63, instRow 64, instRow 65, instRow 66, instRow 67, instRow 68, instRow 69, instRow 70, instRow 71, instRow 72, instRow 73, instRow 74, instRow 75, instRow 76, instRow 77, instRow 78, instRow 79, instRow 80, instRow 81, instRow 82, instRow 83, instRow 84, instRow 85, instRow 86, .agg instCells, undef, undef, undef, undef, undef, undef, undef, undef, undef, undef, undef], defers := [] } ?h rfl ?_
  case h => kernel_rfl
  simp only [List.append_eq, List.cons_append, List.nil_append, List.drop_succ_cons, List.drop_zero]
  go_step
  go_step
  go_step
  refine wpList_store_row rfl 89 _ _ rfl (w.heap.size + 1) instCells rfl rfl 89 (Array.replicate 348 (.int .i64 0)) ?hblk (by kernel_rfl) (by kernel_rfl) (by kernel_rfl) ?_
  case hblk =>
    have h := Blk.new (w.alloc (.cells #[.int .i64 0, .int .i64 0, .int .i64 0, .int .i64 0] 73)) (Array.replicate 348 (.int .i64 0)) 89
    rw [World.size_alloc] at h
    exact h
  generalize hX : World.setRow _ _ _ = X
  have B1 : Blk X w.heap.size #[.int .i64 0, .int .i64 0, .int .i64 0, .int .i64 0] 73 := by
    have h := ((Blk.new w #[.int .i64 0, .int .i64 0, .int .i64 0, .int .i64 0] 73).alloc (.cells instCells 89))
    rw [← World.setRow_alloc_new _ (Array.replicate 348 (.int .i64 0)), World.size_alloc] at h
    exact hX ▸ h
  have B2 : Blk X (w.heap.size + 1) instCells 89 := by
    have h := Blk.new (w.alloc (.cells #[.int .i64 0, .int .i64 0, .int .i64 0, .int .i64 0] 73)) instCells 89
    rw [← World.setRow_alloc_new _ (Array.replicate 348 (.int .i64 0)), World.size_alloc] at h
    exact hX ▸ h
  have hb : Below w.heap.size w X := by
    have h := ((Below.refl w.heap.size w).alloc (Nat.le_refl _) (.cells #[.int .i64 0, .int .i64 0, .int .i64 0, .int .i64 0] 73)).alloc (by simp) (.cells instCells 89)
    rw [← World.setRow_alloc_new _ (Array.replicate 348 (.int .i64 0)), World.size_alloc] at h
    exact hX ▸ h
  clear hX hz
  have c1 := B1.cell
  have f1 := B1.frozen
  have l1 := B1.lt
  by_cases hr : 1 ≤ a0 ∧ a0 ≤ 87
  · have q : ∀ j, j < 4 → X.cell? ⟨w.heap.size + 1, (a0.toNat - 1) * 4 + j, none⟩ = some (.int .i64 (instNums.getD (4 * (a0 - 1).toNat + j) 0)) := by
      intro j hj
      have h := B2.cell ((a0.toNat - 1) * 4 + j)
      have e1 : a0.toNat - 1 = (a0 - 1).toNat := by omega
      rw [e1, Nat.mul_comm] at h ⊢
      rw [h]
      have hl : 4 * (a0 - 1).toNat + j < instNums.length := by
        have e : instNums.length = 348 := by decide +kernel
        omega
      simp only [instCells, List.getElem?_toArray, List.getElem?_map, List.getElem?_eq_getElem hl, List.getD_eq_getElem?_getD, Option.map_some, Option.getD_some]
    have q0 : X.cell? ⟨w.heap.size + 1, (a0.toNat - 1) * 4, none⟩ = some (.int .i64 (formOf a0)) := by rw [formOf, if_pos hr]; exact q 0 (by omega)
    have q1 : X.cell? ⟨w.heap.size + 1, (a0.toNat - 1) * 4 + 1, none⟩ = some (.int .i64 (codeOf a0)) := by rw [codeOf, if_pos hr]; exact q 1 (by omega)
    have q2 : X.cell? ⟨w.heap.size + 1, (a0.toNat - 1) * 4 + 2, none⟩ = some (.int .i64 (f3Of a0)) := by rw [f3Of, if_pos hr]; exact q 2 (by omega)
    have q3 : X.cell? ⟨w.heap.size + 1, (a0.toNat - 1) * 4 + 3, none⟩ = some (.int .i64 (f7Of a0)) := by rw [f7Of, if_pos hr]; exact q 3 (by omega)
    clear q B2
    have hb := Lib.hid hb
    obtain ⟨hr1, hr2⟩ := hr
    go_wp2
    (try simp only [Exit.inBlock, Exit.then])
    generalize hY : World.setCell _ _ _ = Y
    have BY : Blk Y w.heap.size #[.int .i64 (formOf a0), .int .i64 (codeOf a0), .int .i64 (f3Of a0), .int .i64 (f7Of a0)] 73 := by
      have h := (((B1.set 0 (.int .i64 (formOf a0))).set 1 (.int .i64 (codeOf a0))).set 2 (.int .i64 (f3Of a0))).set 3 (.int .i64 (f7Of a0))
      rw [← hY]
      simpa using h
    have hbY : Below w.heap.size w Y := by
      rw [← hY]
      have hb := hb.out
      go_grown
    have cY := BY.cell
    refine bodyPost_ret (v := .agg #[.int .i64 (formOf a0), .int .i64 (codeOf a0), .int .i64 (f3Of a0), .int .i64 (f7Of a0)]) (by simp [results, Tryz.results36, go_sem, cY]) rfl ?_
    exact ⟨rfl, hbY⟩
  · clear B2
    have z1 : formOf a0 = 0 := by rw [formOf, if_neg hr]
    have z2 : codeOf a0 = 0 := by rw [codeOf, if_neg hr]
    have z3 : f3Of a0 = 0 := by rw [f3Of, if_neg hr]
    have z4 : f7Of a0 = 0 := by rw [f7Of, if_neg hr]
    have z := Lib.hid (And.intro z1 (And.intro z2 (And.intro z3 z4)))
    clear z1 z2 z3 z4
    have hb := Lib.hid hb
    go_wp2
    all_goals (
      (try simp only [Exit.inBlock, Exit.then])
      generalize hY : World.setCell _ _ _ = Y
      have BY : Blk Y w.heap.size #[.int .i64 0, .int .i64 0, .int .i64 0, .int .i64 0] 73 := by
        have h := (((B1.set 0 (.int .i64 0)).set 1 (.int .i64 0)).set 2 (.int .i64 0)).set 3 (.int .i64 0)
        rw [← hY]
        simpa using h
      have hbY : Below w.heap.size w Y := by
        rw [← hY]
        have hb := hb.out
        go_grown
      have cY := BY.cell
      refine bodyPost_ret (v := .agg #[.int .i64 0, .int .i64 0, .int .i64 0, .int .i64 0]) (by simp [results, Tryz.results36, go_sem, cY]) rfl ?_
      obtain ⟨z1, z2, z3, z4⟩ := z.out
      rw [z1, z2, z3, z4]
      exact ⟨rfl, hbY⟩)
theorem postbagref02_Row.calls (a0 : Int) (r1 : Int) (r2 : Int) (r3 : Int) (r4 : Int) (w : World) (h : postbagref02_Row.f a0 = some (r1, r2, r3, r4)) :
    Calls Tryz.prog 36 #[.int .i64 a0] w fun e w' => e = .returned (.agg #[.int .i64 r1, .int .i64 r2, .int .i64 r3, .int .i64 r4]) ∧ Below w.heap.size w w' := by
  obtain ⟨rfl, rfl, rfl, rfl⟩ : formOf a0 = r1 ∧ codeOf a0 = r2 ∧ f3Of a0 = r3 ∧ f7Of a0 = r4 := by simpa only [postbagref02_Row.f, Option.some.injEq, Prod.mk.injEq] using h
  exact postbagref02_Row.c a0 w


/-! ### postbagref02_has: function 51 -/
def postbagref02_has.f (a0 : Int) : Option (Bool × Bool × Bool × Bool × Bool) := some (hasRd a0, hasRs1 a0, hasRs2 a0, hasImm a0, hasAq a0)
theorem bools5 {a b c d e a' b' c' d' e' : Bool} (h1 : a = a') (h2 : b = b') (h3 : c = c') (h4 : d = d') (h5 : e = e') : Ending.returned (.agg #[.bool a, .bool b, .bool c, .bool d, .bool e]) = Ending.returned (.agg #[.bool a', .bool b', .bool c', .bool d', .bool e']) := by subst_vars; rfl
set_option maxHeartbeats 4000000 in
theorem postbagref02_has.c (a0 : Int) (w : World) :
    Calls Tryz.prog 51 #[.int .i64 a0] w fun e w' => e = .returned (.agg #[.bool (hasRd a0), .bool (hasRs1 a0), .bool (hasRs2 a0), .bool (hasImm a0), .bool (hasAq a0)]) ∧ Below w.heap.size w w' := by
  go_enter Tryz.func51, Tryz.ntmps51
  go_wp2
  all_goals go_returns
  all_goals refine ⟨?_, by go_grown⟩
  all_goals refine bools5 ?_ ?_ ?_ ?_ ?_
  all_goals simp only [beq_iff_eq, beq_eq_false_iff_ne, ne_eq, hasRd, hasRs1, hasRs2, hasImm, hasAq] at *
  all_goals (first | (symm; apply decide_eq_true; omega) | (symm; apply decide_eq_false; omega))
theorem postbagref02_has.calls (a0 : Int) (r1 r2 r3 r4 r5 : Bool) (w : World) (h : postbagref02_has.f a0 = some (r1, r2, r3, r4, r5)) :
    Calls Tryz.prog 51 #[.int .i64 a0] w fun e w' => e = .returned (.agg #[.bool r1, .bool r2, .bool r3, .bool r4, .bool r5]) ∧ Below w.heap.size w w' := by
  obtain ⟨rfl, rfl, rfl, rfl, rfl⟩ : hasRd a0 = r1 ∧ hasRs1 a0 = r2 ∧ hasRs2 a0 = r3 ∧ hasImm a0 = r4 ∧ hasAq a0 = r5 := by simpa only [postbagref02_has.f, Option.some.injEq, Prod.mk.injEq] using h
  exact postbagref02_has.c a0 w


/-! ### postbagref02_register0: function 52 -/
def postbagref02_register0.f (a0 : Int) (a1 : Bool) : Option (Bool) := if a1 = true then (if a0 ≥ 0 then (some (decide (a0 ≤ 31))) else (some false)) else (some (a0 == 0))
set_option maxHeartbeats 8000000 in
set_option maxRecDepth 100000 in
theorem postbagref02_register0.calls (a0 : Int) (a1 : Bool) (r : Bool) (w : World) (h : postbagref02_register0.f a0 a1 = some r) :
    Calls Tryz.prog 52 #[.int .i64 a0, .bool a1] w fun e w' => e = .returned (.bool r) ∧ Drawn0 w w' := by
  have H : (if a1 = true then (if a0 ≥ 0 then (some (decide (a0 ≤ 31))) else (some false)) else (some (a0 == 0))) = some r := h
  clear h
  by_cases c3 : a1 = true
  · subst c3
    have H1 : (if a0 ≥ 0 then (some (decide (a0 ≤ 31))) else (some false)) = some r := by rw [if_pos rfl] at H; exact H
    clear H
    have H := H1
    clear H1
    by_cases c4 : a0 ≥ 0
    · rw [if_pos c4] at H
      have c4b0 : decide (0 ≤ a0) = true := decide_eq_true c4
      clear c4
      obtain rfl := Option.some.inj H
      go_enter Tryz.func52, Tryz.ntmps52
      go_wp2
      go_ret
      exact ⟨by first | rfl | (simp; done) | (simp [*]; done), by repeat (first | exact Drawn0.refl _ | apply Drawn0.step)⟩
    · rw [if_neg c4] at H
      have c4b0 : decide (0 ≤ a0) = false := decide_eq_false c4
      clear c4
      obtain rfl := Option.some.inj H
      go_enter Tryz.func52, Tryz.ntmps52
      go_wp2
      go_ret
      exact ⟨by first | rfl | (simp; done) | (simp [*]; done), by repeat (first | exact Drawn0.refl _ | apply Drawn0.step)⟩
  · replace c3 := Bool.eq_false_iff.mpr c3
    subst c3
    have H1 : (some (a0 == 0)) = some r := by rw [if_neg (show ¬ (false = true) by decide)] at H; exact H
    clear H
    have H := H1
    clear H1
    obtain rfl := Option.some.inj H
    go_enter Tryz.func52, Tryz.ntmps52
    go_wp2
    go_ret
    exact ⟨by first | rfl | (simp; done) | (simp [*]; done), by repeat (first | exact Drawn0.refl _ | apply Drawn0.step)⟩
def postbagref02_register.f (a0 : Int) (a1 : Bool) : Option (Bool) := some (regOf a0 a1)
theorem postbagref02_register.spec (a0 : Int) (a1 r : Bool) (h : postbagref02_register.f a0 a1 = some r) : postbagref02_register0.f a0 a1 = some r := by
  rw [← h]; unfold postbagref02_register0.f postbagref02_register.f regOf
  cases a1
  · simp
  · by_cases h0 : 0 ≤ a0 <;> simp [h0]

theorem postbagref02_register.calls (a0 : Int) (a1 : Bool) (r : Bool) (w : World) (h : postbagref02_register.f a0 a1 = some r) :
    Calls Tryz.prog 52 #[.int .i64 a0, .bool a1] w fun e w' => e = .returned (.bool r) ∧ Drawn0 w w' := by
  have hk := postbagref02_register.spec a0 a1 r h
  exact postbagref02_register0.calls a0 a1 r w hk

/-! ### postbagref01_Bit0: function 93 -/
mutual
def postbagref01_Bit0.j0 : Nat → Int → Int → Bool → Option (Int)
  | 0, _, _, _ => none
  | k + 1, x0, x1, x11 => if x11 = true then (some 0) else (postbagref01_Bit0.l0 k x0 x1 0)
def postbagref01_Bit0.l0 : Nat → Int → Int → Int → Option (Int)
  | 0, _, _, _ => none
  | k + 1, x0, x1, x5 => if x5 < x1 then (postbagref01_Bit0.l0 k (IntKind.u64.wrap (Int.tdiv x0 2)) x1 (wrap64 (x5 + 1))) else (some (Int.tmod x0 2))
end
def postbagref01_Bit0.f (k : Nat) (a0 : Int) (a1 : Int) : Option (Int) := if a1 < 0 then (postbagref01_Bit0.j0 k a0 a1 true) else (postbagref01_Bit0.j0 k a0 a1 (decide (a1 > 63)))
theorem postbagref01_Bit0.mono_l : ∀ k, (∀ y0 y1 y2, LeO (postbagref01_Bit0.j0 k y0 y1 y2) (postbagref01_Bit0.j0 (k + 1) y0 y1 y2)) ∧ (∀ y0 y1 y2, LeO (postbagref01_Bit0.l0 k y0 y1 y2) (postbagref01_Bit0.l0 (k + 1) y0 y1 y2))
  | 0 => ⟨fun _ _ _ r h => by simp [postbagref01_Bit0.j0] at h, fun _ _ _ r h => by simp [postbagref01_Bit0.l0] at h⟩
  | k + 1 => by
    obtain ⟨ih0, ih1⟩ := postbagref01_Bit0.mono_l k
    refine ⟨?_, ?_⟩
    · intro y0 y1 y2
      unfold postbagref01_Bit0.j0
      repeat' first
      | (with_reducible exact ih0 _ _ _)
      | (with_reducible exact ih1 _ _ _)
      | (with_reducible exact LeO.refl _)
      | (with_reducible exact LeO.none _)
      | (with_reducible refine LeO.ite ?_ ?_)
      | (with_reducible refine LeO.bind ?_ (fun _ => ?_))
      | exact ih0 _ _ _
      | exact ih1 _ _ _
      | exact LeO.none _
      | refine LeO.ite ?_ ?_
      | refine LeO.bind ?_ (fun _ => ?_)
    · intro y0 y1 y2
      unfold postbagref01_Bit0.l0
      repeat' first
      | (with_reducible exact ih0 _ _ _)
      | (with_reducible exact ih1 _ _ _)
      | (with_reducible exact LeO.refl _)
      | (with_reducible exact LeO.none _)
      | (with_reducible refine LeO.ite ?_ ?_)
      | (with_reducible refine LeO.bind ?_ (fun _ => ?_))
      | exact ih0 _ _ _
      | exact ih1 _ _ _
      | exact LeO.none _
      | refine LeO.ite ?_ ?_
      | refine LeO.bind ?_ (fun _ => ?_)
theorem postbagref01_Bit0.mono : ∀ a0 a1 k, LeO (postbagref01_Bit0.f k a0 a1) (postbagref01_Bit0.f (k + 1) a0 a1) := by
  intro a0 a1 k
  obtain ⟨ih0, ih1⟩ := postbagref01_Bit0.mono_l k
  unfold postbagref01_Bit0.f
  repeat' first
      | (with_reducible exact ih0 _ _ _)
      | (with_reducible exact ih1 _ _ _)
      | (with_reducible exact LeO.refl _)
      | (with_reducible exact LeO.none _)
      | (with_reducible refine LeO.ite ?_ ?_)
      | (with_reducible refine LeO.bind ?_ (fun _ => ?_))
      | exact ih0 _ _ _
      | exact ih1 _ _ _
      | exact LeO.none _
      | refine LeO.ite ?_ ?_
      | refine LeO.bind ?_ (fun _ => ?_)
set_option maxHeartbeats 8000000 in
set_option maxRecDepth 100000 in
theorem postbagref01_Bit0.calls (k : Nat) (a0 : Int) (a1 : Int) (r : Int) (w : World) (h : postbagref01_Bit0.f k a0 a1 = some r) :
    Calls Tryz.prog 93 #[.int .u64 a0, .int .i64 a1] w fun e w' => e = .returned (.int .u64 r) ∧ Drawn0 w w' := by
  have H : (if a1 < 0 then (postbagref01_Bit0.j0 k a0 a1 true) else (postbagref01_Bit0.j0 k a0 a1 (decide (a1 > 63)))) = some r := h
  clear h
  have HC3 := Aside0.mk H
  clear H
  go_enter Tryz.func93, Tryz.ntmps93
  go_upto_region 1 with (fail)
  go_cut [11] (fun v11 wc => ∃ (kq : Nat) (x11_2 : Bool), v11 = .bool x11_2 ∧ Aside0 (postbagref01_Bit0.j0 kq a0 a1 x11_2 = some r) ∧ Aside0 (kq ≤ k) ∧ Drawn0 w wc)
  case first =>
    have H := HC3.out
    clear HC3
    by_cases c4 : a1 < 0
    · rw [if_pos c4] at H
      have c4b0 : decide (a1 < 0) = true := decide_eq_true c4
      clear c4
      (first | rw [c4b0] | (simp only [i64_w, i32_w]; rw [c4b0]) | skip)
      have H' := Aside0.mk H
      clear H
      go_wp2
      go_meet
      case rel => exact ⟨_, (true), (by first | rfl | (simp; done) | (simp [*]; done)), H', ⟨by first | omega | exact Nat.le_refl _⟩, by repeat (first | exact Drawn0.refl _ | apply Drawn0.step)⟩
    · rw [if_neg c4] at H
      have c4b0 : decide (a1 < 0) = false := decide_eq_false c4
      clear c4
      (first | rw [c4b0] | (simp only [i64_w, i32_w]; rw [c4b0]) | skip)
      have H' := Aside0.mk H
      clear H
      go_wp2
      go_meet
      case rel => exact ⟨_, (decide (a1 > 63)), (by first | rfl | (simp; done) | (simp [*]; done)), H', ⟨by first | omega | exact Nat.le_refl _⟩, by repeat (first | exact Drawn0.refl _ | apply Drawn0.step)⟩
  case rest =>
    clear HC3
    try clear p2
    try clear c4
    try clear c4b0
    obtain ⟨kq, x11_2, rfl, HA, HJ2, ⟨mc2, rfl⟩⟩ := hcut
    cases kq with
    | zero => exact absurd HA.out (by simp [postbagref01_Bit0.j0])
    | succ kj2 =>
      have H := HA.out
      clear HA
      simp only [postbagref01_Bit0.j0] at H
      by_cases c5 : x11_2 = true
      · subst c5
        have H1 : (some 0) = some r := by rw [if_pos rfl] at H; exact H
        clear H
        have H := H1
        clear H1
        obtain rfl := Option.some.inj H
        go_wp2
        go_ret
        exact ⟨by first | rfl | (simp; done) | (simp [*]; done), by repeat (first | exact Drawn0.refl _ | apply Drawn0.step)⟩
      · replace c5 := Bool.eq_false_iff.mpr c5
        subst c5
        have H1 : (postbagref01_Bit0.l0 kj2 a0 a1 0) = some r := by rw [if_neg (show ¬ (false = true) by decide)] at H; exact H
        clear H
        have H := H1
        clear H1
        have H' := Aside0.mk H
        clear H
        go_wp2
        go_loopg [0, 5] kj2 (fun kq v0 v5 w' => ∃ (x0_2 : Int) (x5_2 : Int), v0 = .int .u64 x0_2 ∧ v5 = .int .i64 x5_2 ∧ Aside0 (postbagref01_Bit0.l0 kq x0_2 a1 x5_2 = some r) ∧ Aside0 (kq ≤ kj2) ∧ Drawn0 w w')
        case atStart => exact ⟨(a0), (0), (by first | rfl | (simp; done) | (simp [*]; done)), (by first | rfl | (simp; done) | (simp [*]; done)), H', ⟨Nat.le_refl _⟩, by repeat (first | exact Drawn0.refl _ | apply Drawn0.step)⟩
        case round =>
          clear H'
          try clear c2
          try clear p2
          try clear c4
          try clear c4b0
          try clear c5
          try clear p2
          obtain ⟨x0_2, x5_2, rfl, rfl, HA, HK2, ⟨m2, rfl⟩⟩ := hrel
          cases gk with
          | zero => exact absurd HA.out (by simp [postbagref01_Bit0.l0])
          | succ k2 =>
            have H := HA.out
            clear HA
            simp only [postbagref01_Bit0.l0] at H
            by_cases c6 : x5_2 < a1
            · rw [if_pos c6] at H
              have c6b0 : decide (x5_2 < a1) = true := decide_eq_true c6
              clear c6
              have H' := Aside0.mk H
              clear H
              go_wp2
              go_roundg k2
              case measure => have := HJ2.out; have := HK2.out; omega
              case rel => exact ⟨(IntKind.u64.wrap (Int.tdiv x0_2 2)), (wrap64 (x5_2 + 1)), (by first | rfl | (simp; done) | (simp [*]; done)), (by first | rfl | (simp; done) | (simp [*]; done)), H', ⟨by have := HJ2.out; have := HK2.out; omega⟩, by repeat (first | exact Drawn0.refl _ | apply Drawn0.step)⟩
            · rw [if_neg c6] at H
              have c6b0 : decide (x5_2 < a1) = false := decide_eq_false c6
              clear c6
              obtain rfl := Option.some.inj H
              go_wp2
              go_ret
              exact ⟨by first | rfl | (simp; done) | (simp [*]; done), by repeat (first | exact Drawn0.refl _ | apply Drawn0.step)⟩
def postbagref01_Bit.f (a0 : Int) (a1 : Int) : Option (Int) := if U64 a0 then some (bitOf a0 a1) else none
theorem postbagref01_Bit.loop (d : Nat) : ∀ (k : Nat) (x i j : Int), U64 x → 0 ≤ i → j ≤ 63 → j - i = d → d < k → postbagref01_Bit0.l0 k x j i = some (x / 2 ^ d % 2) := by
  induction d with
  | zero =>
    intro k x i j hx h0 h1 hd hk
    obtain ⟨k, rfl⟩ : ∃ m, k = m + 1 := ⟨k - 1, by omega⟩
    simp only [postbagref01_Bit0.l0]
    rw [if_neg (by omega), Int.tmod_eq_emod_of_nonneg hx.1, Int.pow_zero, Int.ediv_one]
  | succ d ih =>
    intro k x i j hx h0 h1 hd hk
    obtain ⟨k, rfl⟩ : ∃ m, k = m + 1 := ⟨k - 1, by omega⟩
    simp only [postbagref01_Bit0.l0]
    have hx2 : U64 (x / 2) := by have := hx; unfold U64 at *; omega
    rw [if_pos (by omega), Int.tdiv_eq_ediv_of_nonneg hx.1, hx2.wrap_eq, I64.wrap_eq (by unfold I64; omega), ih k _ _ _ hx2 (by omega) h1 (by omega) (by omega), Int.ediv_ediv_of_nonneg (by omega), Int.pow_succ, Int.mul_comm]
theorem postbagref01_Bit.spec (a0 a1 r : Int) (h : postbagref01_Bit.f a0 a1 = some r) : ∃ k, postbagref01_Bit0.f k a0 a1 = some r := by
  unfold postbagref01_Bit.f at h
  by_cases hu : U64 a0
  · rw [if_pos hu] at h
    obtain rfl := Option.some.inj h
    refine ⟨a1.toNat + 3, ?_⟩
    unfold postbagref01_Bit0.f bitOf
    by_cases h1 : a1 < 0
    · rw [if_pos h1, if_pos (Or.inl h1)]; simp only [postbagref01_Bit0.j0, if_true]
    · rw [if_neg h1]
      by_cases h2 : a1 > 63
      · rw [if_pos (Or.inr h2), decide_eq_true h2]; simp only [postbagref01_Bit0.j0, if_true]
      · rw [if_neg (by omega), decide_eq_false h2]
        simp only [postbagref01_Bit0.j0]
        rw [if_neg (by decide), postbagref01_Bit.loop a1.toNat _ _ _ _ hu (by omega) (by omega) (by omega) (by omega)]
  · rw [if_neg hu] at h; exact absurd h (by simp)
theorem postbagref01_Bit.eq {a0 : Int} (h : U64 a0) (a1 : Int) : postbagref01_Bit.f a0 a1 = some (bitOf a0 a1) := if_pos h


theorem postbagref01_Bit.calls (a0 : Int) (a1 : Int) (r : Int) (w : World) (h : postbagref01_Bit.f a0 a1 = some r) :
    Calls Tryz.prog 93 #[.int .u64 a0, .int .i64 a1] w fun e w' => e = .returned (.int .u64 r) ∧ Drawn0 w w' := by
  obtain ⟨k, hk⟩ := postbagref01_Bit.spec a0 a1 r h
  exact postbagref01_Bit0.calls k a0 a1 r w hk

/-! ### postbagref01_power0: function 94 -/
def postbagref01_power0.l0 : Nat → Int → Int → Int → Option (Int)
  | 0, _, _, _ => none
  | k + 1, x0, x3, x4 => if x4 < x0 then (if x4 < 64 then (postbagref01_power0.l0 k x0 (IntKind.u64.wrap (2 * x3)) (wrap64 (x4 + 1))) else (some x3)) else (some x3)
def postbagref01_power0.f (k : Nat) (a0 : Int) : Option (Int) := postbagref01_power0.l0 k a0 1 0
theorem postbagref01_power0.mono_l : ∀ k, (∀ y0 y1 y2, LeO (postbagref01_power0.l0 k y0 y1 y2) (postbagref01_power0.l0 (k + 1) y0 y1 y2))
  | 0 => fun _ _ _ r h => by simp [postbagref01_power0.l0] at h
  | k + 1 => by
    have ih0 := postbagref01_power0.mono_l k
    · intro y0 y1 y2
      unfold postbagref01_power0.l0
      repeat' first
      | (with_reducible exact ih0 _ _ _)
      | (with_reducible exact LeO.refl _)
      | (with_reducible exact LeO.none _)
      | (with_reducible refine LeO.ite ?_ ?_)
      | (with_reducible refine LeO.bind ?_ (fun _ => ?_))
      | exact ih0 _ _ _
      | exact LeO.none _
      | refine LeO.ite ?_ ?_
      | refine LeO.bind ?_ (fun _ => ?_)
theorem postbagref01_power0.mono : ∀ a0 k, LeO (postbagref01_power0.f k a0) (postbagref01_power0.f (k + 1) a0) := by
  intro a0 k
  have ih0 := postbagref01_power0.mono_l k
  unfold postbagref01_power0.f
  repeat' first
      | (with_reducible exact ih0 _ _ _)
      | (with_reducible exact LeO.refl _)
      | (with_reducible exact LeO.none _)
      | (with_reducible refine LeO.ite ?_ ?_)
      | (with_reducible refine LeO.bind ?_ (fun _ => ?_))
      | exact ih0 _ _ _
      | exact LeO.none _
      | refine LeO.ite ?_ ?_
      | refine LeO.bind ?_ (fun _ => ?_)
set_option maxHeartbeats 8000000 in
set_option maxRecDepth 100000 in
theorem postbagref01_power0.calls (k : Nat) (a0 : Int) (r : Int) (w : World) (h : postbagref01_power0.f k a0 = some r) :
    Calls Tryz.prog 94 #[.int .i64 a0] w fun e w' => e = .returned (.int .u64 r) ∧ Drawn0 w w' := by
  have H : (postbagref01_power0.l0 k a0 1 0) = some r := h
  clear h
  have H' := Aside0.mk H
  clear H
  go_enter Tryz.func94, Tryz.ntmps94
  go_wp2
  go_loopg [3, 4] k (fun kq v3 v4 w' => ∃ (x3_1 : Int) (x4_1 : Int), v3 = .int .u64 x3_1 ∧ v4 = .int .i64 x4_1 ∧ Aside0 (postbagref01_power0.l0 kq a0 x3_1 x4_1 = some r) ∧ Aside0 (kq ≤ k) ∧ Drawn0 w w')
  case atStart => exact ⟨(1), (0), (by first | rfl | (simp; done) | (simp [*]; done)), (by first | rfl | (simp; done) | (simp [*]; done)), H', ⟨Nat.le_refl _⟩, by repeat (first | exact Drawn0.refl _ | apply Drawn0.step)⟩
  case round =>
    clear H'
    obtain ⟨x3_1, x4_1, rfl, rfl, HA, HK1, ⟨m1, rfl⟩⟩ := hrel
    cases gk with
    | zero => exact absurd HA.out (by simp [postbagref01_power0.l0])
    | succ k1 =>
      have H := HA.out
      clear HA
      simp only [postbagref01_power0.l0] at H
      by_cases c2 : x4_1 < a0
      · rw [if_pos c2] at H
        have c2b0 : decide (x4_1 < a0) = true := decide_eq_true c2
        clear c2
        by_cases c3 : x4_1 < 64
        · rw [if_pos c3] at H
          have c3b0 : decide (x4_1 < 64) = true := decide_eq_true c3
          clear c3
          have H' := Aside0.mk H
          clear H
          go_wp2
          go_roundg k1
          case measure => have := HK1.out; omega
          case rel => exact ⟨(IntKind.u64.wrap (2 * x3_1)), (wrap64 (x4_1 + 1)), (by first | rfl | (simp; done) | (simp [*]; done)), (by first | rfl | (simp; done) | (simp [*]; done)), H', ⟨by have := HK1.out; omega⟩, by repeat (first | exact Drawn0.refl _ | apply Drawn0.step)⟩
        · rw [if_neg c3] at H
          have c3b0 : decide (x4_1 < 64) = false := decide_eq_false c3
          clear c3
          obtain rfl := Option.some.inj H
          go_wp2
          go_ret
          exact ⟨by first | rfl | (simp; done) | (simp [*]; done), by repeat (first | exact Drawn0.refl _ | apply Drawn0.step)⟩
      · rw [if_neg c2] at H
        have c2b0 : decide (x4_1 < a0) = false := decide_eq_false c2
        clear c2
        obtain rfl := Option.some.inj H
        go_wp2
        go_ret
        exact ⟨by first | rfl | (simp; done) | (simp [*]; done), by repeat (first | exact Drawn0.refl _ | apply Drawn0.step)⟩
def postbagref01_power.f (a0 : Int) : Option (Int) := some (powOf a0)
theorem postbagref01_power.loop (d : Nat) : ∀ (k : Nat) (n : Int) (i : Nat), i + d = 64 → d < k → (i : Int) ≤ n →
    postbagref01_power0.l0 k n (2 ^ i % 18446744073709551616) i = some (powOf n) := by
  induction d with
  | zero =>
    intro k n i hi hk hn
    obtain ⟨k, rfl⟩ : ∃ m, k = m + 1 := ⟨k - 1, by omega⟩
    obtain rfl : i = 64 := by omega
    simp only [postbagref01_power0.l0, powOf]
    rw [if_neg (show ¬ n < 0 by omega), if_pos (show n ≥ 64 by omega)]
    by_cases h : ((64 : Nat) : Int) < n
    · rw [if_pos h, if_neg (by omega)]; rfl
    · rw [if_neg h]; rfl
  | succ d ih =>
    intro k n i hi hk hn
    obtain ⟨k, rfl⟩ : ∃ m, k = m + 1 := ⟨k - 1, by omega⟩
    simp only [postbagref01_power0.l0]
    by_cases h : (i : Int) < n
    · rw [if_pos h, if_pos (by omega), I64.wrap_eq (by unfold I64; omega), u64w, ← ih k n (i + 1) (by omega) (by omega) (by omega)]
      congr 1
      rw [Int.pow_succ, Int.mul_emod, Int.emod_emod_of_dvd _ (Int.dvd_refl _), ← Int.mul_emod, Int.mul_comm]
    · rw [if_neg h]
      unfold powOf
      rw [if_neg (by omega), if_neg (by omega), show n.toNat = i from by omega, Int.emod_eq_of_lt (Int.le_of_lt (ipos i))]
      exact Int.lt_of_le_of_lt (ipow_le i 63 (by omega)) (by decide)
theorem postbagref01_power.spec (a0 r : Int) (h : postbagref01_power.f a0 = some r) : ∃ k, postbagref01_power0.f k a0 = some r := by
  refine ⟨66, ?_⟩
  rw [← h]
  unfold postbagref01_power.f postbagref01_power0.f
  by_cases h0 : a0 < 0
  · rw [postbagref01_power0.l0, if_neg (by omega), powOf, if_pos h0]
  · exact postbagref01_power.loop 64 66 a0 0 (by omega) (by omega) (by omega)


theorem postbagref01_power.calls (a0 : Int) (r : Int) (w : World) (h : postbagref01_power.f a0 = some r) :
    Calls Tryz.prog 94 #[.int .i64 a0] w fun e w' => e = .returned (.int .u64 r) ∧ Drawn0 w w' := by
  obtain ⟨k, hk⟩ := postbagref01_power.spec a0 r h
  exact postbagref01_power0.calls k a0 r w hk

/-! ### postbagref01_Sign0: function 81 -/
mutual
def postbagref01_Sign0.j0 : Nat → Int → Int → Bool → Option (Int)
  | 0, _, _, _ => none
  | k + 1, x0, x1, x13 => if x13 = true then (some x0) else (postbagref01_Sign0.l0 k x0 x1 0 0)
def postbagref01_Sign0.l0 : Nat → Int → Int → Int → Int → Option (Int)
  | 0, _, _, _, _ => none
  | k + 1, x0, x1, x5, x6 => if x6 < 64 then ((postbagref01_Bit.f x0 (wrap64 (x1 - 1))).bind fun t153 => (if x6 < x1 then ((postbagref01_Bit.f x0 x6).bind fun t154 => ((postbagref01_power.f x6).bind fun t155 => (postbagref01_Sign0.l0 k x0 x1 (IntKind.u64.wrap (x5 + (IntKind.u64.wrap (t154 * t155)))) (wrap64 (x6 + 1))))) else ((postbagref01_power.f x6).bind fun t156 => (postbagref01_Sign0.l0 k x0 x1 (IntKind.u64.wrap (x5 + (IntKind.u64.wrap (t153 * t156)))) (wrap64 (x6 + 1)))))) else (some x5)
end
def postbagref01_Sign0.f (k : Nat) (a0 : Int) (a1 : Int) : Option (Int) := if a1 < 1 then (postbagref01_Sign0.j0 k a0 a1 true) else (postbagref01_Sign0.j0 k a0 a1 (decide (a1 > 63)))
theorem postbagref01_Sign0.mono_l : ∀ k, (∀ y0 y1 y2, LeO (postbagref01_Sign0.j0 k y0 y1 y2) (postbagref01_Sign0.j0 (k + 1) y0 y1 y2)) ∧ (∀ y0 y1 y2 y3, LeO (postbagref01_Sign0.l0 k y0 y1 y2 y3) (postbagref01_Sign0.l0 (k + 1) y0 y1 y2 y3))
  | 0 => ⟨fun _ _ _ r h => by simp [postbagref01_Sign0.j0] at h, fun _ _ _ _ r h => by simp [postbagref01_Sign0.l0] at h⟩
  | k + 1 => by
    obtain ⟨ih0, ih1⟩ := postbagref01_Sign0.mono_l k
    refine ⟨?_, ?_⟩
    · intro y0 y1 y2
      unfold postbagref01_Sign0.j0
      repeat' first
      | (with_reducible exact ih0 _ _ _)
      | (with_reducible exact ih1 _ _ _ _)
      | (with_reducible exact LeO.refl _)
      | (with_reducible exact LeO.none _)
      | (with_reducible refine LeO.ite ?_ ?_)
      | (with_reducible refine LeO.bind ?_ (fun _ => ?_))
      | exact ih0 _ _ _
      | exact ih1 _ _ _ _
      | exact LeO.none _
      | refine LeO.ite ?_ ?_
      | refine LeO.bind ?_ (fun _ => ?_)
    · intro y0 y1 y2 y3
      unfold postbagref01_Sign0.l0
      repeat' first
      | (with_reducible exact ih0 _ _ _)
      | (with_reducible exact ih1 _ _ _ _)
      | (with_reducible exact LeO.refl _)
      | (with_reducible exact LeO.none _)
      | (with_reducible refine LeO.ite ?_ ?_)
      | (with_reducible refine LeO.bind ?_ (fun _ => ?_))
      | exact ih0 _ _ _
      | exact ih1 _ _ _ _
      | exact LeO.none _
      | refine LeO.ite ?_ ?_
      | refine LeO.bind ?_ (fun _ => ?_)
theorem postbagref01_Sign0.mono : ∀ a0 a1 k, LeO (postbagref01_Sign0.f k a0 a1) (postbagref01_Sign0.f (k + 1) a0 a1) := by
  intro a0 a1 k
  obtain ⟨ih0, ih1⟩ := postbagref01_Sign0.mono_l k
  unfold postbagref01_Sign0.f
  repeat' first
      | (with_reducible exact ih0 _ _ _)
      | (with_reducible exact ih1 _ _ _ _)
      | (with_reducible exact LeO.refl _)
      | (with_reducible exact LeO.none _)
      | (with_reducible refine LeO.ite ?_ ?_)
      | (with_reducible refine LeO.bind ?_ (fun _ => ?_))
      | exact ih0 _ _ _
      | exact ih1 _ _ _ _
      | exact LeO.none _
      | refine LeO.ite ?_ ?_
      | refine LeO.bind ?_ (fun _ => ?_)
set_option maxHeartbeats 8000000 in
set_option maxRecDepth 100000 in
theorem postbagref01_Sign0.calls (k : Nat) (a0 : Int) (a1 : Int) (r : Int) (w : World) (h : postbagref01_Sign0.f k a0 a1 = some r) :
    Calls Tryz.prog 81 #[.int .u64 a0, .int .i64 a1] w fun e w' => e = .returned (.int .u64 r) ∧ Drawn0 w w' := by
  have H : (if a1 < 1 then (postbagref01_Sign0.j0 k a0 a1 true) else (postbagref01_Sign0.j0 k a0 a1 (decide (a1 > 63)))) = some r := h
  clear h
  have HC3 := Aside0.mk H
  clear H
  go_enter Tryz.func81, Tryz.ntmps81
  go_upto_region 1 with (fail)
  go_cut [13] (fun v13 wc => ∃ (kq : Nat) (x13_2 : Bool), v13 = .bool x13_2 ∧ Aside0 (postbagref01_Sign0.j0 kq a0 a1 x13_2 = some r) ∧ Aside0 (kq ≤ k) ∧ Drawn0 w wc)
  case first =>
    have H := HC3.out
    clear HC3
    by_cases c4 : a1 < 1
    · rw [if_pos c4] at H
      have c4b0 : decide (a1 < 1) = true := decide_eq_true c4
      clear c4
      (first | rw [c4b0] | (simp only [i64_w, i32_w]; rw [c4b0]) | skip)
      have H' := Aside0.mk H
      clear H
      go_wp2
      go_meet
      case rel => exact ⟨_, (true), (by first | rfl | (simp; done) | (simp [*]; done)), H', ⟨by first | omega | exact Nat.le_refl _⟩, by repeat (first | exact Drawn0.refl _ | apply Drawn0.step)⟩
    · rw [if_neg c4] at H
      have c4b0 : decide (a1 < 1) = false := decide_eq_false c4
      clear c4
      (first | rw [c4b0] | (simp only [i64_w, i32_w]; rw [c4b0]) | skip)
      have H' := Aside0.mk H
      clear H
      go_wp2
      go_meet
      case rel => exact ⟨_, (decide (a1 > 63)), (by first | rfl | (simp; done) | (simp [*]; done)), H', ⟨by first | omega | exact Nat.le_refl _⟩, by repeat (first | exact Drawn0.refl _ | apply Drawn0.step)⟩
  case rest =>
    clear HC3
    try clear p2
    try clear c4
    try clear c4b0
    obtain ⟨kq, x13_2, rfl, HA, HJ2, ⟨mc2, rfl⟩⟩ := hcut
    cases kq with
    | zero => exact absurd HA.out (by simp [postbagref01_Sign0.j0])
    | succ kj2 =>
      have H := HA.out
      clear HA
      simp only [postbagref01_Sign0.j0] at H
      by_cases c5 : x13_2 = true
      · subst c5
        have H1 : (some a0) = some r := by rw [if_pos rfl] at H; exact H
        clear H
        have H := H1
        clear H1
        obtain rfl := Option.some.inj H
        go_wp2
        go_ret
        exact ⟨by first | rfl | (simp; done) | (simp [*]; done), by repeat (first | exact Drawn0.refl _ | apply Drawn0.step)⟩
      · replace c5 := Bool.eq_false_iff.mpr c5
        subst c5
        have H1 : (postbagref01_Sign0.l0 kj2 a0 a1 0 0) = some r := by rw [if_neg (show ¬ (false = true) by decide)] at H; exact H
        clear H
        have H := H1
        clear H1
        have H' := Aside0.mk H
        clear H
        go_wp2
        go_loopg [5, 6] kj2 (fun kq v5 v6 w' => ∃ (x5_2 : Int) (x6_2 : Int), v5 = .int .u64 x5_2 ∧ v6 = .int .i64 x6_2 ∧ Aside0 (postbagref01_Sign0.l0 kq a0 a1 x5_2 x6_2 = some r) ∧ Aside0 (kq ≤ kj2) ∧ Drawn0 w w')
        case atStart => exact ⟨(0), (0), (by first | rfl | (simp; done) | (simp [*]; done)), (by first | rfl | (simp; done) | (simp [*]; done)), H', ⟨Nat.le_refl _⟩, by repeat (first | exact Drawn0.refl _ | apply Drawn0.step)⟩
        case round =>
          clear H'
          try clear c2
          try clear p2
          try clear c4
          try clear c4b0
          try clear c5
          try clear p2
          obtain ⟨x5_2, x6_2, rfl, rfl, HA, HK2, ⟨m2, rfl⟩⟩ := hrel
          cases gk with
          | zero => exact absurd HA.out (by simp [postbagref01_Sign0.l0])
          | succ k2 =>
            have H := HA.out
            clear HA
            simp only [postbagref01_Sign0.l0] at H
            by_cases c6 : x6_2 < 64
            · rw [if_pos c6] at H
              have c6b0 : decide (x6_2 < 64) = true := decide_eq_true c6
              clear c6
              replace H := Option.bind_eq_some_iff.mp H
              obtain ⟨t153, A70, H⟩ := H
              replace H : (if x6_2 < a1 then ((postbagref01_Bit.f a0 x6_2).bind fun t154 => ((postbagref01_power.f x6_2).bind fun t155 => (postbagref01_Sign0.l0 k2 a0 a1 (IntKind.u64.wrap (x5_2 + (IntKind.u64.wrap (t154 * t155)))) (wrap64 (x6_2 + 1))))) else ((postbagref01_power.f x6_2).bind fun t156 => (postbagref01_Sign0.l0 k2 a0 a1 (IntKind.u64.wrap (x5_2 + (IntKind.u64.wrap (t153 * t156)))) (wrap64 (x6_2 + 1))))) = some r := H
              have A7 := Aside0.mk A70
              clear A70
              by_cases c8 : x6_2 < a1
              · rw [if_pos c8] at H
                have c8b0 : decide (x6_2 < a1) = true := decide_eq_true c8
                clear c8
                replace H := Option.bind_eq_some_iff.mp H
                obtain ⟨t154, A90, H⟩ := H
                replace H : ((postbagref01_power.f x6_2).bind fun t155 => (postbagref01_Sign0.l0 k2 a0 a1 (IntKind.u64.wrap (x5_2 + (IntKind.u64.wrap (t154 * t155)))) (wrap64 (x6_2 + 1)))) = some r := H
                have A9 := Aside0.mk A90
                clear A90
                replace H := Option.bind_eq_some_iff.mp H
                obtain ⟨t155, A100, H⟩ := H
                replace H : (postbagref01_Sign0.l0 k2 a0 a1 (IntKind.u64.wrap (x5_2 + (IntKind.u64.wrap (t154 * t155)))) (wrap64 (x6_2 + 1))) = some r := H
                have A10 := Aside0.mk A100
                clear A100
                have H' := Aside0.mk H
                clear H
                go_wp2_with (first | ((with_reducible refine gate_callee (f := 93) rfl ?_); refine goesL_ (some 22) rfl rfl Tryz.func93 (by kernel_rfl) rfl #[.int .u64 a0, .int .i64 (wrap64 (a1 - 1))] rfl (by (try simp only [List.map_toArray, List.map_cons, List.map_nil]); first | done | rfl | (simp only [List.length_drop, List.length_take]; rfl)) ?_; (with_reducible refine (postbagref01_Bit.calls a0 (wrap64 (a1 - 1)) t153 _ A7.out).mono ?_); rintro e w' ⟨rfl, ⟨nd, rfl⟩⟩; refine ⟨_, rfl, ?_⟩) | ((with_reducible refine gate_callee (f := 93) rfl ?_); refine goesL_ (some 28) rfl rfl Tryz.func93 (by kernel_rfl) rfl #[.int .u64 a0, .int .i64 x6_2] rfl (by (try simp only [List.map_toArray, List.map_cons, List.map_nil]); first | done | rfl | (simp only [List.length_drop, List.length_take]; rfl)) ?_; (with_reducible refine (postbagref01_Bit.calls a0 x6_2 t154 _ A9.out).mono ?_); rintro e w' ⟨rfl, ⟨nd, rfl⟩⟩; refine ⟨_, rfl, ?_⟩) | ((with_reducible refine gate_callee (f := 94) rfl ?_); refine goesL_ (some 32) rfl rfl Tryz.func94 (by kernel_rfl) rfl #[.int .i64 x6_2] rfl (by (try simp only [List.map_toArray, List.map_cons, List.map_nil]); first | done | rfl | (simp only [List.length_drop, List.length_take]; rfl)) ?_; (with_reducible refine (postbagref01_power.calls x6_2 t155 _ A10.out).mono ?_); rintro e w' ⟨rfl, ⟨nd, rfl⟩⟩; refine ⟨_, rfl, ?_⟩))
                go_roundg k2
                case measure => have := HJ2.out; have := HK2.out; omega
                case rel => exact ⟨(IntKind.u64.wrap (x5_2 + (IntKind.u64.wrap (t154 * t155)))), (wrap64 (x6_2 + 1)), (by first | rfl | (simp; done) | (simp [*]; done)), (by first | rfl | (simp; done) | (simp [*]; done)), H', ⟨by have := HJ2.out; have := HK2.out; omega⟩, by repeat (first | exact Drawn0.refl _ | apply Drawn0.step)⟩
              · rw [if_neg c8] at H
                have c8b0 : decide (x6_2 < a1) = false := decide_eq_false c8
                clear c8
                replace H := Option.bind_eq_some_iff.mp H
                obtain ⟨t156, A110, H⟩ := H
                replace H : (postbagref01_Sign0.l0 k2 a0 a1 (IntKind.u64.wrap (x5_2 + (IntKind.u64.wrap (t153 * t156)))) (wrap64 (x6_2 + 1))) = some r := H
                have A11 := Aside0.mk A110
                clear A110
                have H' := Aside0.mk H
                clear H
                go_wp2_with (first | ((with_reducible refine gate_callee (f := 93) rfl ?_); refine goesL_ (some 22) rfl rfl Tryz.func93 (by kernel_rfl) rfl #[.int .u64 a0, .int .i64 (wrap64 (a1 - 1))] rfl (by (try simp only [List.map_toArray, List.map_cons, List.map_nil]); first | done | rfl | (simp only [List.length_drop, List.length_take]; rfl)) ?_; (with_reducible refine (postbagref01_Bit.calls a0 (wrap64 (a1 - 1)) t153 _ A7.out).mono ?_); rintro e w' ⟨rfl, ⟨nd, rfl⟩⟩; refine ⟨_, rfl, ?_⟩) | ((with_reducible refine gate_callee (f := 94) rfl ?_); refine goesL_ (some 32) rfl rfl Tryz.func94 (by kernel_rfl) rfl #[.int .i64 x6_2] rfl (by (try simp only [List.map_toArray, List.map_cons, List.map_nil]); first | done | rfl | (simp only [List.length_drop, List.length_take]; rfl)) ?_; (with_reducible refine (postbagref01_power.calls x6_2 t156 _ A11.out).mono ?_); rintro e w' ⟨rfl, ⟨nd, rfl⟩⟩; refine ⟨_, rfl, ?_⟩))
                go_roundg k2
                case measure => have := HJ2.out; have := HK2.out; omega
                case rel => exact ⟨(IntKind.u64.wrap (x5_2 + (IntKind.u64.wrap (t153 * t156)))), (wrap64 (x6_2 + 1)), (by first | rfl | (simp; done) | (simp [*]; done)), (by first | rfl | (simp; done) | (simp [*]; done)), H', ⟨by have := HJ2.out; have := HK2.out; omega⟩, by repeat (first | exact Drawn0.refl _ | apply Drawn0.step)⟩
            · rw [if_neg c6] at H
              have c6b0 : decide (x6_2 < 64) = false := decide_eq_false c6
              clear c6
              obtain rfl := Option.some.inj H
              go_wp2
              go_ret
              exact ⟨by first | rfl | (simp; done) | (simp [*]; done), by repeat (first | exact Drawn0.refl _ | apply Drawn0.step)⟩
def postbagref01_Sign.f (a0 : Int) (a1 : Int) : Option (Int) := if U64 a0 then some (signOf a0 a1) else none
theorem postbagref01_Sign.loop (x : Int) (hx : U64 x) (n : Nat) (h1 : 1 ≤ n) (h2 : n ≤ 63) (d : Nat) : ∀ (k i : Nat), i + d = 64 → d < k →
    postbagref01_Sign0.l0 k x n (signTo x n i) i = some (signOf x n) := by
  induction d with
  | zero =>
    intro k i hi hk
    obtain ⟨k, rfl⟩ : ∃ m, k = m + 1 := ⟨k - 1, by omega⟩
    obtain rfl : i = 64 := by omega
    simp only [postbagref01_Sign0.l0]
    rw [if_neg (by omega), signTo_all x n h1 h2]
  | succ d ih =>
    intro k i hi hk
    obtain ⟨k, rfl⟩ : ∃ m, k = m + 1 := ⟨k - 1, by omega⟩
    simp only [postbagref01_Sign0.l0]
    rw [if_pos (by omega), postbagref01_Bit.eq hx, I64.wrap_eq (show I64 ((i : Int) + 1) by unfold I64; omega), I64.wrap_eq (show I64 ((n : Int) - 1) by unfold I64; omega)]
    simp only [Option.bind_some, postbagref01_power.f]
    have hs := signTo_step x n i h1 h2 (by omega)
    have hr := signTo_range x n (i + 1) hx (by omega) h2
    have hr0 := signTo_range x n i hx (by omega) h2
    have e2 : powOf (i : Int) = 2 ^ i := by unfold powOf; rw [if_neg (by omega), if_neg (by omega), Int.toNat_natCast]
    have hp := ipos i
    have hw : ∀ b : Int, b = 0 ∨ b = 1 → signTo x n (i + 1) = signTo x n i + b * 2 ^ i → IntKind.u64.wrap (signTo x n i + IntKind.u64.wrap (b * 2 ^ i)) = signTo x n (i + 1) := by
      intro b hb he
      have hb2 : U64 (b * 2 ^ i) := by
        rcases hb with rfl | rfl
        · rw [Int.zero_mul]; decide
        · rw [Int.one_mul] at *; unfold U64 at *; omega
      rw [hb2.wrap_eq, ← he, hr.wrap_eq]
    by_cases h : i < n
    · rw [if_pos (by omega), postbagref01_Bit.eq hx]
      simp only [Option.bind_some]
      rw [if_pos h] at hs
      rw [e2, hw _ (bitOf_bool _ _) hs, show ((i : Int) + 1) = ((i + 1 : Nat) : Int) from by omega]
      exact ih k (i + 1) (by omega) (by omega)
    · rw [if_neg (by omega)]
      rw [if_neg h] at hs
      rw [e2, hw _ (bitOf_bool _ _) hs, show ((i : Int) + 1) = ((i + 1 : Nat) : Int) from by omega]
      exact ih k (i + 1) (by omega) (by omega)
theorem postbagref01_Sign.spec (a0 a1 r : Int) (h : postbagref01_Sign.f a0 a1 = some r) : ∃ k, postbagref01_Sign0.f k a0 a1 = some r := by
  unfold postbagref01_Sign.f at h
  by_cases hu : U64 a0
  · rw [if_pos hu] at h
    obtain rfl := Option.some.inj h
    refine ⟨67, ?_⟩
    unfold postbagref01_Sign0.f
    by_cases h1 : a1 < 1
    · rw [if_pos h1]; simp only [postbagref01_Sign0.j0, if_true, signOf]; rw [if_pos (Or.inl h1)]
    · rw [if_neg h1]
      by_cases h2 : a1 > 63
      · rw [decide_eq_true h2]; simp only [postbagref01_Sign0.j0, if_true, signOf]; rw [if_pos (Or.inr h2)]
      · rw [decide_eq_false h2]
        simp only [postbagref01_Sign0.j0]
        obtain ⟨n, rfl⟩ : ∃ n : Nat, a1 = n := ⟨a1.toNat, by omega⟩
        have h := postbagref01_Sign.loop a0 hu n (by omega) (by omega) 64 66 0 (by omega) (by omega)
        rw [if_neg (by decide), ← h]
        congr 1
        unfold signTo; rw [if_pos (by omega), Int.pow_zero, Int.emod_one]
  · rw [if_neg hu] at h; exact absurd h (by simp)
theorem postbagref01_Sign.eq {a0 : Int} (h : U64 a0) (a1 : Int) : postbagref01_Sign.f a0 a1 = some (signOf a0 a1) := if_pos h


theorem postbagref01_Sign.calls (a0 : Int) (a1 : Int) (r : Int) (w : World) (h : postbagref01_Sign.f a0 a1 = some r) :
    Calls Tryz.prog 81 #[.int .u64 a0, .int .i64 a1] w fun e w' => e = .returned (.int .u64 r) ∧ Drawn0 w w' := by
  obtain ⟨k, hk⟩ := postbagref01_Sign.spec a0 a1 r h
  exact postbagref01_Sign0.calls k a0 a1 r w hk

/-! ### postbagref01_Fits0: function 63 -/
def postbagref01_Fits0.f (a0 : Int) (a1 : Int) : Option (Bool) := if a1 < 1 then (some false) else (if a1 > 63 then (some true) else ((postbagref01_Sign.f (IntKind.u64.wrap (a0)) a1).bind fun t157 => (some (t157 == (IntKind.u64.wrap (a0))))))
set_option maxHeartbeats 8000000 in
set_option maxRecDepth 100000 in
theorem postbagref01_Fits0.calls (a0 : Int) (a1 : Int) (r : Bool) (w : World) (h : postbagref01_Fits0.f a0 a1 = some r) :
    Calls Tryz.prog 63 #[.int .i64 a0, .int .i64 a1] w fun e w' => e = .returned (.bool r) ∧ Drawn0 w w' := by
  have H : (if a1 < 1 then (some false) else (if a1 > 63 then (some true) else ((postbagref01_Sign.f (IntKind.u64.wrap (a0)) a1).bind fun t157 => (some (t157 == (IntKind.u64.wrap (a0))))))) = some r := h
  clear h
  by_cases c3 : a1 < 1
  · rw [if_pos c3] at H
    have c3b0 : decide (a1 < 1) = true := decide_eq_true c3
    clear c3
    obtain rfl := Option.some.inj H
    go_enter Tryz.func63, Tryz.ntmps63
    go_wp2
    go_ret
    exact ⟨by first | rfl | (simp; done) | (simp [*]; done), by repeat (first | exact Drawn0.refl _ | apply Drawn0.step)⟩
  · rw [if_neg c3] at H
    have c3b0 : decide (a1 < 1) = false := decide_eq_false c3
    clear c3
    by_cases c4 : a1 > 63
    · rw [if_pos c4] at H
      have c4b0 : decide (63 < a1) = true := decide_eq_true c4
      clear c4
      obtain rfl := Option.some.inj H
      go_enter Tryz.func63, Tryz.ntmps63
      go_wp2
      go_ret
      exact ⟨by first | rfl | (simp; done) | (simp [*]; done), by repeat (first | exact Drawn0.refl _ | apply Drawn0.step)⟩
    · rw [if_neg c4] at H
      have c4b0 : decide (63 < a1) = false := decide_eq_false c4
      clear c4
      replace H := Option.bind_eq_some_iff.mp H
      obtain ⟨t157, A50, H⟩ := H
      replace H : (some (t157 == (IntKind.u64.wrap (a0)))) = some r := H
      have A5 := Aside0.mk A50
      clear A50
      obtain rfl := Option.some.inj H
      go_enter Tryz.func63, Tryz.ntmps63
      go_wp2_with (first | ((with_reducible refine gate_callee (f := 81) rfl ?_); refine goesL_ (some 12) rfl rfl Tryz.func81 (by kernel_rfl) rfl #[.int .u64 (IntKind.u64.wrap (a0)), .int .i64 a1] rfl (by (try simp only [List.map_toArray, List.map_cons, List.map_nil]); first | done | rfl | (simp only [List.length_drop, List.length_take]; rfl)) ?_; (with_reducible refine (postbagref01_Sign.calls (IntKind.u64.wrap (a0)) a1 t157 _ A5.out).mono ?_); rintro e w' ⟨rfl, ⟨nd, rfl⟩⟩; refine ⟨_, rfl, ?_⟩))
      go_ret
      exact ⟨by first | rfl | (simp; done) | (simp [*]; done), by repeat (first | exact Drawn0.refl _ | apply Drawn0.step)⟩
def postbagref01_Fits.f (a0 : Int) (a1 : Int) : Option (Bool) := if I64 a0 then some (fitsOf a0 a1) else none
theorem postbagref01_Fits.spec (a0 a1 : Int) (r : Bool) (h : postbagref01_Fits.f a0 a1 = some r) : postbagref01_Fits0.f a0 a1 = some r := by
  unfold postbagref01_Fits.f at h
  by_cases hu : I64 a0
  · rw [if_pos hu] at h
    obtain rfl := Option.some.inj h
    unfold postbagref01_Fits0.f
    by_cases h1 : a1 < 1
    · rw [if_pos h1, fitsOf, decide_eq_false (by omega)]
    · rw [if_neg h1]
      by_cases h2 : a1 > 63
      · rw [if_pos h2, fitsOf, decide_eq_true ⟨by omega, fun h => by omega⟩]
      · obtain ⟨n, rfl⟩ : ∃ n : Nat, a1 = n := ⟨a1.toNat, by omega⟩
        rw [if_neg h2, postbagref01_Sign.eq (U64.wrap _)]
        simp only [Option.bind_some]
        rw [fits_sign a0 hu n (by omega) (by omega)]
  · rw [if_neg hu] at h; exact absurd h (by simp)


theorem postbagref01_Fits.calls (a0 : Int) (a1 : Int) (r : Bool) (w : World) (h : postbagref01_Fits.f a0 a1 = some r) :
    Calls Tryz.prog 63 #[.int .i64 a0, .int .i64 a1] w fun e w' => e = .returned (.bool r) ∧ Drawn0 w w' := by
  have hk := postbagref01_Fits.spec a0 a1 r h
  exact postbagref01_Fits0.calls a0 a1 r w hk

end Go.Proofs.YtihcljaphajdfaaGreatDoor.PAll
