/- DERIVED. The contracts of the Go functions that one law reaches: each call returns what the plain function beside it says, under that theorem's own premises. Written by a program (hp.py) over the kit's printed words. -/
import Derived.Test.YtjdidadafccepaaPAluBackx0
import Derived.Test.YtjdidadafccepaaPAluBackx4
import Derived.Test.YtjdidadafccepaaPAluBackx5
namespace Go.Proofs.Ytjdidadafccepaa.PAluBack
open Go.RowKit Go.Proofs.YtjdidadafccepaaW.PrintWords Go.Proofs.YtjdidadafccepaaW.PrintLast Go.Proofs.YtjdidadafccepaaW.PrintMore Go.Proofs.Ytjdidadafccepaa.M
attribute [local go_sem] max2_int min2_int max_two min_two max_three min_three max_four min_four   -- for this text's walks alone
set_option linter.unusedVariables false
set_option linter.unusedSimpArgs false

/-! ### alu_Target: function 19 -/
def alu_Target.j0 : Nat → Int → Int → Bool → Int → Int → Int → Int → Int → Bool → Bool → Option (Int)
  | 0, _, _, _, _, _, _, _, _, _, _ => none
  | k + 1, x1, x2, x7, x131000, x131001, x131002, x131003, x131004, x131005, x131006 => if x7 = true then (some (IntKind.u64.wrap (x1 + (IntKind.u64.wrap (x131004))))) else (if x131000 = 4 then (some (Go.bits .andNot .u64 (IntKind.u64.wrap (x2 + (IntKind.u64.wrap (x131004)))) 1)) else (some (IntKind.u64.wrap (x1 + 4))))
def alu_Target.f (k : Nat) (a0_0 : Int) (a0_1 : Int) (a0_2 : Int) (a0_3 : Int) (a0_4 : Int) (a0_5 : Bool) (a0_6 : Bool) (a1 : Int) (a2 : Int) : Option (Int) := if a0_0 = 3 then (alu_Target.j0 k a1 a2 (a0_0 == 3) a0_0 a0_1 a0_2 a0_3 a0_4 a0_5 a0_6) else (if a0_0 ≥ 5 then (alu_Target.j0 k a1 a2 (decide (a0_0 ≤ 10)) a0_0 a0_1 a0_2 a0_3 a0_4 a0_5 a0_6) else (alu_Target.j0 k a1 a2 false a0_0 a0_1 a0_2 a0_3 a0_4 a0_5 a0_6))
theorem alu_Target.mono_l : ∀ k, (∀ y0 y1 y2 y3 y4 y5 y6 y7 y8 y9, LeO (alu_Target.j0 k y0 y1 y2 y3 y4 y5 y6 y7 y8 y9) (alu_Target.j0 (k + 1) y0 y1 y2 y3 y4 y5 y6 y7 y8 y9))
  | 0 => fun _ _ _ _ _ _ _ _ _ _ r h => by simp [alu_Target.j0] at h
  | k + 1 => by
    have ih0 := alu_Target.mono_l k
    · intro y0 y1 y2 y3 y4 y5 y6 y7 y8 y9
      unfold alu_Target.j0
      repeat' first
      | (with_reducible exact ih0 _ _ _ _ _ _ _ _ _ _)
      | (with_reducible exact LeO.refl _)
      | (with_reducible exact LeO.none _)
      | (with_reducible refine LeO.ite ?_ ?_)
      | (with_reducible refine LeO.bind ?_ (fun _ => ?_))
      | exact ih0 _ _ _ _ _ _ _ _ _ _
      | exact LeO.none _
      | refine LeO.ite ?_ ?_
      | refine LeO.bind ?_ (fun _ => ?_)
theorem alu_Target.mono : ∀ a0 a1 a2 a3 a4 a5 a6 a7 a8 k, LeO (alu_Target.f k a0 a1 a2 a3 a4 a5 a6 a7 a8) (alu_Target.f (k + 1) a0 a1 a2 a3 a4 a5 a6 a7 a8) := by
  intro a0 a1 a2 a3 a4 a5 a6 a7 a8 k
  have ih0 := alu_Target.mono_l k
  unfold alu_Target.f
  repeat' first
      | (with_reducible exact ih0 _ _ _ _ _ _ _ _ _ _)
      | (with_reducible exact LeO.refl _)
      | (with_reducible exact LeO.none _)
      | (with_reducible refine LeO.ite ?_ ?_)
      | (with_reducible refine LeO.bind ?_ (fun _ => ?_))
      | exact ih0 _ _ _ _ _ _ _ _ _ _
      | exact LeO.none _
      | refine LeO.ite ?_ ?_
      | refine LeO.bind ?_ (fun _ => ?_)
set_option maxHeartbeats 8000000 in
set_option maxRecDepth 100000 in
theorem alu_Target.calls (k : Nat) (a0_0 : Int) (a0_1 : Int) (a0_2 : Int) (a0_3 : Int) (a0_4 : Int) (a0_5 : Bool) (a0_6 : Bool) (a1 : Int) (a2 : Int) (r : Int) (w : World) (h : alu_Target.f k a0_0 a0_1 a0_2 a0_3 a0_4 a0_5 a0_6 a1 a2 = some r) :
    Calls Try.prog 19 #[.agg #[.int .i64 a0_0, .int .i64 a0_1, .int .i64 a0_2, .int .i64 a0_3, .int .i64 a0_4, .bool a0_5, .bool a0_6], .int .u64 a1, .int .u64 a2] w fun e w' => e = .returned (.int .u64 r) ∧ Below w.heap.size w w' := by
  have hu23 := Try.underlying23
  have HB := Aside0.mk (Below.refl w.heap.size w)
  have H : (if a0_0 = 3 then (alu_Target.j0 k a1 a2 (a0_0 == 3) a0_0 a0_1 a0_2 a0_3 a0_4 a0_5 a0_6) else (if a0_0 ≥ 5 then (alu_Target.j0 k a1 a2 (decide (a0_0 ≤ 10)) a0_0 a0_1 a0_2 a0_3 a0_4 a0_5 a0_6) else (alu_Target.j0 k a1 a2 false a0_0 a0_1 a0_2 a0_3 a0_4 a0_5 a0_6))) = some r := h
  clear h
  have HC4 := Aside0.mk H
  clear H
  go_enter Try.func19, Try.ntmps19
  go_upto_if 7 with (first | ((with_reducible refine gate_dst (N := 3) rfl ?_); refine box_event ?hg (N := 3) ?hd (cs := #[.int .i64 a0_0, .int .i64 a0_1, .int .i64 a0_2, .int .i64 a0_3, .int .i64 a0_4, .bool a0_5, .bool a0_6]) (t := 23) ?hr ?_; (case hd => rfl); (case hg => rfl); (case hr => first | (go_simp; done) | (go_simp; rfl)); intro gb130 hg w5 hbox hb; have n0_ := Aside0.mk (below_step (by repeat (first | (with_reducible first | exact HB.out | apply below_alloc | apply pw_below_drewN | apply below_drew1) | exact HB.out)) hb); have n1_ := Aside0.mk (hbox); have n2_ := Aside0.mk ((by rw [hg]; exact (below_size (by repeat (first | (with_reducible first | exact HB.out | apply below_alloc | apply pw_below_drewN | apply below_drew1) | exact HB.out))) : w.heap.size ≤ gb130)); have n3_ := Aside0.mk ((by rw [hg]; exact (below_size (by repeat (first | (with_reducible first | exact HB.out | apply below_alloc | apply pw_below_drewN | apply below_drew1) | exact HB.out))) : w.heap.size ≤ gb130)); clear HB; have HB := n0_; have BK130 := n1_; have GW130 := n2_; have GE130 := n3_; clear n0_ n1_ n2_ n3_; clear hb hbox hg; have hcz6_0 : w5.cell? ⟨gb130, 0, none⟩ = some (.int .i64 a0_0) := (blk_cell BK130.out 0).trans rfl; have hcz6_1 : w5.cell? ⟨gb130, 1, none⟩ = some (.int .i64 a0_1) := (blk_cell BK130.out 1).trans rfl; have hcz6_2 : w5.cell? ⟨gb130, 2, none⟩ = some (.int .i64 a0_2) := (blk_cell BK130.out 2).trans rfl; have hcz6_3 : w5.cell? ⟨gb130, 3, none⟩ = some (.int .i64 a0_3) := (blk_cell BK130.out 3).trans rfl; have hcz6_4 : w5.cell? ⟨gb130, 4, none⟩ = some (.int .i64 a0_4) := (blk_cell BK130.out 4).trans rfl; have hcz6_5 : w5.cell? ⟨gb130, 5, none⟩ = some (.bool a0_5) := (blk_cell BK130.out 5).trans rfl; have hcz6_6 : w5.cell? ⟨gb130, 6, none⟩ = some (.bool a0_6) := (blk_cell BK130.out 6).trans rfl; have hfz6_0 := blk_frozen BK130.out 0; have hfz6_1 := blk_frozen BK130.out 1; have hfz6_2 := blk_frozen BK130.out 2; have hfz6_3 := blk_frozen BK130.out 3; have hfz6_4 := blk_frozen BK130.out 4; have hfz6_5 := blk_frozen BK130.out 5; have hfz6_6 := blk_frozen BK130.out 6))
  (try simp only [Act.put, List.setIfInBounds_toArray, List.set_cons_zero, List.set_cons_succ])
  go_cut [7] (fun v7 wc => ∃ (kq : Nat) (x7_3 : Bool), v7 = .bool x7_3 ∧ Aside0 (alu_Target.j0 kq a1 a2 x7_3 a0_0 a0_1 a0_2 a0_3 a0_4 a0_5 a0_6 = some r) ∧ Aside0 (kq ≤ k) ∧ Aside0 (wc.heap[gb130]? = some (.cells #[.int .i64 a0_0, .int .i64 a0_1, .int .i64 a0_2, .int .i64 a0_3, .int .i64 a0_4, .bool a0_5, .bool a0_6] 23 (0, 0))) ∧ Aside0 (Below w.heap.size w wc))
  case first =>
    have H := HC4.out
    clear HC4
    by_cases c7 : a0_0 = 3
    · rw [if_pos c7] at H
      have c7b0 : (a0_0 == 3) = true := beq_iff_eq.mpr c7
      have c7b1 : (a0_0 != 3) = false := bne_eq_false_iff_eq.mpr c7
      clear c7
      (first | rw [c7b0] | (simp only [i64_w, i32_w]; rw [c7b0]) | skip)
      have H' := Aside0.mk H
      clear H
      go_wp2
      go_meet
      case rel => exact ⟨_, ((a0_0 == 3)), (by first | rfl | (simp; done) | (simp [*]; done)), H', ⟨by first | omega | exact Nat.le_refl _⟩, ⟨by (with_reducible repeat (first | refine blk_drewN ?_ _ | refine blk_drew ?_ | refine blk_alloc ?_ _)); exact BK130.out⟩, ⟨by repeat (first | (with_reducible first | exact HB.out | apply below_alloc | apply pw_below_drewN | apply below_drew1 | refine below_set ?_ GE130.out) | exact HB.out)⟩⟩
    · rw [if_neg c7] at H
      have c7b0 : (a0_0 == 3) = false := beq_eq_false_iff_ne.mpr c7
      have c7b1 : (a0_0 != 3) = true := bne_iff_ne.mpr c7
      (first | rw [c7b0] | (simp only [i64_w, i32_w]; rw [c7b0]) | skip)
      by_cases c8 : a0_0 ≥ 5
      · rw [if_pos c8] at H
        have c8b0 : decide (5 ≤ a0_0) = true := decide_eq_true c8
        clear c8
        have H' := Aside0.mk H
        clear H
        have hcz9_0 : w5.cell? ⟨gb130, 0, none⟩ = some (.int .i64 a0_0) := (blk_cell BK130.out 0).trans rfl
        have hcz9_1 : w5.cell? ⟨gb130, 1, none⟩ = some (.int .i64 a0_1) := (blk_cell BK130.out 1).trans rfl
        have hcz9_2 : w5.cell? ⟨gb130, 2, none⟩ = some (.int .i64 a0_2) := (blk_cell BK130.out 2).trans rfl
        have hcz9_3 : w5.cell? ⟨gb130, 3, none⟩ = some (.int .i64 a0_3) := (blk_cell BK130.out 3).trans rfl
        have hcz9_4 : w5.cell? ⟨gb130, 4, none⟩ = some (.int .i64 a0_4) := (blk_cell BK130.out 4).trans rfl
        have hcz9_5 : w5.cell? ⟨gb130, 5, none⟩ = some (.bool a0_5) := (blk_cell BK130.out 5).trans rfl
        have hcz9_6 : w5.cell? ⟨gb130, 6, none⟩ = some (.bool a0_6) := (blk_cell BK130.out 6).trans rfl
        have hfz9_0 := blk_frozen BK130.out 0
        have hfz9_1 := blk_frozen BK130.out 1
        have hfz9_2 := blk_frozen BK130.out 2
        have hfz9_3 := blk_frozen BK130.out 3
        have hfz9_4 := blk_frozen BK130.out 4
        have hfz9_5 := blk_frozen BK130.out 5
        have hfz9_6 := blk_frozen BK130.out 6
        go_wp2
        go_meet
        case rel => exact ⟨_, (decide (a0_0 ≤ 10)), (by first | rfl | (simp; done) | (simp [*]; done)), H', ⟨by first | omega | exact Nat.le_refl _⟩, ⟨by (with_reducible repeat (first | refine blk_drewN ?_ _ | refine blk_drew ?_ | refine blk_alloc ?_ _)); exact BK130.out⟩, ⟨by repeat (first | (with_reducible first | exact HB.out | apply below_alloc | apply pw_below_drewN | apply below_drew1 | refine below_set ?_ GE130.out) | exact HB.out)⟩⟩
      · rw [if_neg c8] at H
        have c8b0 : decide (5 ≤ a0_0) = false := decide_eq_false c8
        clear c8
        have H' := Aside0.mk H
        clear H
        have hcz10_0 : w5.cell? ⟨gb130, 0, none⟩ = some (.int .i64 a0_0) := (blk_cell BK130.out 0).trans rfl
        have hcz10_1 : w5.cell? ⟨gb130, 1, none⟩ = some (.int .i64 a0_1) := (blk_cell BK130.out 1).trans rfl
        have hcz10_2 : w5.cell? ⟨gb130, 2, none⟩ = some (.int .i64 a0_2) := (blk_cell BK130.out 2).trans rfl
        have hcz10_3 : w5.cell? ⟨gb130, 3, none⟩ = some (.int .i64 a0_3) := (blk_cell BK130.out 3).trans rfl
        have hcz10_4 : w5.cell? ⟨gb130, 4, none⟩ = some (.int .i64 a0_4) := (blk_cell BK130.out 4).trans rfl
        have hcz10_5 : w5.cell? ⟨gb130, 5, none⟩ = some (.bool a0_5) := (blk_cell BK130.out 5).trans rfl
        have hcz10_6 : w5.cell? ⟨gb130, 6, none⟩ = some (.bool a0_6) := (blk_cell BK130.out 6).trans rfl
        have hfz10_0 := blk_frozen BK130.out 0
        have hfz10_1 := blk_frozen BK130.out 1
        have hfz10_2 := blk_frozen BK130.out 2
        have hfz10_3 := blk_frozen BK130.out 3
        have hfz10_4 := blk_frozen BK130.out 4
        have hfz10_5 := blk_frozen BK130.out 5
        have hfz10_6 := blk_frozen BK130.out 6
        go_wp2
        go_meet
        case rel => exact ⟨_, (false), (by first | rfl | (simp; done) | (simp [*]; done)), H', ⟨by first | omega | exact Nat.le_refl _⟩, ⟨by (with_reducible repeat (first | refine blk_drewN ?_ _ | refine blk_drew ?_ | refine blk_alloc ?_ _)); exact BK130.out⟩, ⟨by repeat (first | (with_reducible first | exact HB.out | apply below_alloc | apply pw_below_drewN | apply below_drew1 | refine below_set ?_ GE130.out) | exact HB.out)⟩⟩
  case rest =>
    clear HC4
    try clear c1
    try clear p2
    try clear c7
    try clear c7b0
    try clear c7b1
    try clear c8
    try clear c8b0
    try clear hcz10_0
    try clear hcz10_1
    try clear hcz10_2
    try clear hcz10_3
    try clear hcz10_4
    try clear hcz10_5
    try clear hcz10_6
    try clear hcz6_0
    try clear hcz6_1
    try clear hcz6_2
    try clear hcz6_3
    try clear hcz6_4
    try clear hcz6_5
    try clear hcz6_6
    try clear hcz9_0
    try clear hcz9_1
    try clear hcz9_2
    try clear hcz9_3
    try clear hcz9_4
    try clear hcz9_5
    try clear hcz9_6
    try clear hfz10_0
    try clear hfz10_1
    try clear hfz10_2
    try clear hfz10_3
    try clear hfz10_4
    try clear hfz10_5
    try clear hfz10_6
    try clear hfz6_0
    try clear hfz6_1
    try clear hfz6_2
    try clear hfz6_3
    try clear hfz6_4
    try clear hfz6_5
    try clear hfz6_6
    try clear hfz9_0
    try clear hfz9_1
    try clear hfz9_2
    try clear hfz9_3
    try clear hfz9_4
    try clear hfz9_5
    try clear hfz9_6
    obtain ⟨kq, x7_3, rfl, HA, HJ3, BK130, HB⟩ := hcut
    cases kq with
    | zero => exact absurd HA.out (by simp [alu_Target.j0])
    | succ kj3 =>
      have H := HA.out
      clear HA
      simp only [alu_Target.j0] at H
      by_cases c11 : x7_3 = true
      · subst c11
        have H1 : (some (IntKind.u64.wrap (a1 + (IntKind.u64.wrap (a0_4))))) = some r := by rw [if_pos rfl] at H; exact H
        clear H
        have H := H1
        clear H1
        obtain rfl := Option.some.inj H
        have hcz12_0 : wc.cell? ⟨gb130, 0, none⟩ = some (.int .i64 a0_0) := (blk_cell BK130.out 0).trans rfl
        have hcz12_1 : wc.cell? ⟨gb130, 1, none⟩ = some (.int .i64 a0_1) := (blk_cell BK130.out 1).trans rfl
        have hcz12_2 : wc.cell? ⟨gb130, 2, none⟩ = some (.int .i64 a0_2) := (blk_cell BK130.out 2).trans rfl
        have hcz12_3 : wc.cell? ⟨gb130, 3, none⟩ = some (.int .i64 a0_3) := (blk_cell BK130.out 3).trans rfl
        have hcz12_4 : wc.cell? ⟨gb130, 4, none⟩ = some (.int .i64 a0_4) := (blk_cell BK130.out 4).trans rfl
        have hcz12_5 : wc.cell? ⟨gb130, 5, none⟩ = some (.bool a0_5) := (blk_cell BK130.out 5).trans rfl
        have hcz12_6 : wc.cell? ⟨gb130, 6, none⟩ = some (.bool a0_6) := (blk_cell BK130.out 6).trans rfl
        have hfz12_0 := blk_frozen BK130.out 0
        have hfz12_1 := blk_frozen BK130.out 1
        have hfz12_2 := blk_frozen BK130.out 2
        have hfz12_3 := blk_frozen BK130.out 3
        have hfz12_4 := blk_frozen BK130.out 4
        have hfz12_5 := blk_frozen BK130.out 5
        have hfz12_6 := blk_frozen BK130.out 6
        go_wp2
        go_ret
        exact ⟨by first | rfl | (simp [errW_none, errW_some] <;> rfl) | (simp [*, errW_none, errW_some] <;> rfl), by repeat (first | (with_reducible first | exact HB.out | apply below_alloc | apply pw_below_drewN | apply below_drew1 | refine below_set ?_ GE130.out) | exact HB.out)⟩
      · replace c11 := Bool.eq_false_iff.mpr c11
        subst c11
        have H1 : (if a0_0 = 4 then (some (Go.bits .andNot .u64 (IntKind.u64.wrap (a2 + (IntKind.u64.wrap (a0_4)))) 1)) else (some (IntKind.u64.wrap (a1 + 4)))) = some r := by rw [if_neg (show ¬ (false = true) by decide)] at H; exact H
        clear H
        have H := H1
        clear H1
        by_cases c13 : a0_0 = 4
        · rw [if_pos c13] at H
          have c13b0 : (a0_0 == 4) = true := beq_iff_eq.mpr c13
          have c13b1 : (a0_0 != 4) = false := bne_eq_false_iff_eq.mpr c13
          clear c13
          obtain rfl := Option.some.inj H
          have hcz14_0 : wc.cell? ⟨gb130, 0, none⟩ = some (.int .i64 a0_0) := (blk_cell BK130.out 0).trans rfl
          have hcz14_1 : wc.cell? ⟨gb130, 1, none⟩ = some (.int .i64 a0_1) := (blk_cell BK130.out 1).trans rfl
          have hcz14_2 : wc.cell? ⟨gb130, 2, none⟩ = some (.int .i64 a0_2) := (blk_cell BK130.out 2).trans rfl
          have hcz14_3 : wc.cell? ⟨gb130, 3, none⟩ = some (.int .i64 a0_3) := (blk_cell BK130.out 3).trans rfl
          have hcz14_4 : wc.cell? ⟨gb130, 4, none⟩ = some (.int .i64 a0_4) := (blk_cell BK130.out 4).trans rfl
          have hcz14_5 : wc.cell? ⟨gb130, 5, none⟩ = some (.bool a0_5) := (blk_cell BK130.out 5).trans rfl
          have hcz14_6 : wc.cell? ⟨gb130, 6, none⟩ = some (.bool a0_6) := (blk_cell BK130.out 6).trans rfl
          have hfz14_0 := blk_frozen BK130.out 0
          have hfz14_1 := blk_frozen BK130.out 1
          have hfz14_2 := blk_frozen BK130.out 2
          have hfz14_3 := blk_frozen BK130.out 3
          have hfz14_4 := blk_frozen BK130.out 4
          have hfz14_5 := blk_frozen BK130.out 5
          have hfz14_6 := blk_frozen BK130.out 6
          go_wp2
          go_ret
          exact ⟨by first | rfl | (simp [errW_none, errW_some] <;> rfl) | (simp [*, errW_none, errW_some] <;> rfl), by repeat (first | (with_reducible first | exact HB.out | apply below_alloc | apply pw_below_drewN | apply below_drew1 | refine below_set ?_ GE130.out) | exact HB.out)⟩
        · rw [if_neg c13] at H
          have c13b0 : (a0_0 == 4) = false := beq_eq_false_iff_ne.mpr c13
          have c13b1 : (a0_0 != 4) = true := bne_iff_ne.mpr c13
          obtain rfl := Option.some.inj H
          have hcz15_0 : wc.cell? ⟨gb130, 0, none⟩ = some (.int .i64 a0_0) := (blk_cell BK130.out 0).trans rfl
          have hcz15_1 : wc.cell? ⟨gb130, 1, none⟩ = some (.int .i64 a0_1) := (blk_cell BK130.out 1).trans rfl
          have hcz15_2 : wc.cell? ⟨gb130, 2, none⟩ = some (.int .i64 a0_2) := (blk_cell BK130.out 2).trans rfl
          have hcz15_3 : wc.cell? ⟨gb130, 3, none⟩ = some (.int .i64 a0_3) := (blk_cell BK130.out 3).trans rfl
          have hcz15_4 : wc.cell? ⟨gb130, 4, none⟩ = some (.int .i64 a0_4) := (blk_cell BK130.out 4).trans rfl
          have hcz15_5 : wc.cell? ⟨gb130, 5, none⟩ = some (.bool a0_5) := (blk_cell BK130.out 5).trans rfl
          have hcz15_6 : wc.cell? ⟨gb130, 6, none⟩ = some (.bool a0_6) := (blk_cell BK130.out 6).trans rfl
          have hfz15_0 := blk_frozen BK130.out 0
          have hfz15_1 := blk_frozen BK130.out 1
          have hfz15_2 := blk_frozen BK130.out 2
          have hfz15_3 := blk_frozen BK130.out 3
          have hfz15_4 := blk_frozen BK130.out 4
          have hfz15_5 := blk_frozen BK130.out 5
          have hfz15_6 := blk_frozen BK130.out 6
          go_wp2
          go_ret
          exact ⟨by first | rfl | (simp [errW_none, errW_some] <;> rfl) | (simp [*, errW_none, errW_some] <;> rfl), by repeat (first | (with_reducible first | exact HB.out | apply below_alloc | apply pw_below_drewN | apply below_drew1 | refine below_set ?_ GE130.out) | exact HB.out)⟩

/-! ### postbaglaw04_lives: function 12 -/
def postbaglaw04_lives.f (k : Nat)  : Option (Bool) := (alu_Value.f 30 1 1 0 1 false false 0 (IntKind.u64.wrap (-8)) 0).bind fun bt131 => ((alu_Value.f 41 1 1 0 1 false false 0 2147483647 0).bind fun bt133 => (if bt131.2 = 0 then (if bt133.2 = 0 then (if bt131.1 = (IntKind.u64.wrap (-(4 : Int))) then (if bt133.1 = 18446744071562067968 then ((alu_Target.f k 4 0 1 0 0 false false 0 9).bind fun t135 => (some (t135 == 8))) else (some false)) else (some false)) else (some false)) else (some false)))
theorem postbaglaw04_lives.mono : ∀ k, LeO (postbaglaw04_lives.f k ) (postbaglaw04_lives.f (k + 1) ) := by
  intro  k
  unfold postbaglaw04_lives.f
  repeat' first
      | (with_reducible exact alu_Target.mono _ _ _ _ _ _ _ _ _ _)
      | (with_reducible exact LeO.refl _)
      | (with_reducible exact LeO.none _)
      | (with_reducible refine LeO.ite ?_ ?_)
      | (with_reducible refine LeO.bind ?_ (fun _ => ?_))
      | exact alu_Target.mono _ _ _ _ _ _ _ _ _ _
      | exact LeO.none _
      | refine LeO.ite ?_ ?_
      | refine LeO.bind ?_ (fun _ => ?_)
set_option maxHeartbeats 8000000 in
set_option maxRecDepth 100000 in
theorem postbaglaw04_lives.calls (k : Nat)  (r : Bool) (w : World) (h : postbaglaw04_lives.f k  = some r) :
    Calls Try.prog 12 #[] w fun e w' => e = .returned (.bool r) ∧ Below w.heap.size w w' := by
  have hu23 := Try.underlying23
  have HB := Aside0.mk (Below.refl w.heap.size w)
  have H : ((alu_Value.f 30 1 1 0 1 false false 0 (IntKind.u64.wrap (-8)) 0).bind fun bt131 => ((alu_Value.f 41 1 1 0 1 false false 0 2147483647 0).bind fun bt133 => (if bt131.2 = 0 then (if bt133.2 = 0 then (if bt131.1 = (IntKind.u64.wrap (-(4 : Int))) then (if bt133.1 = 18446744071562067968 then ((alu_Target.f k 4 0 1 0 0 false false 0 9).bind fun t135 => (some (t135 == 8))) else (some false)) else (some false)) else (some false)) else (some false)))) = some r := h
  clear h
  replace H := Option.bind_eq_some_iff.mp H
  obtain ⟨⟨t131, t132⟩, A10, H⟩ := H
  replace H : ((alu_Value.f 41 1 1 0 1 false false 0 2147483647 0).bind fun bt133 => (if t132 = 0 then (if bt133.2 = 0 then (if t131 = (IntKind.u64.wrap (-(4 : Int))) then (if bt133.1 = 18446744071562067968 then ((alu_Target.f k 4 0 1 0 0 false false 0 9).bind fun t135 => (some (t135 == 8))) else (some false)) else (some false)) else (some false)) else (some false))) = some r := H
  have A1 := Aside0.mk A10
  clear A10
  replace H := Option.bind_eq_some_iff.mp H
  obtain ⟨⟨t133, t134⟩, A20, H⟩ := H
  replace H : (if t132 = 0 then (if t134 = 0 then (if t131 = (IntKind.u64.wrap (-(4 : Int))) then (if t133 = 18446744071562067968 then ((alu_Target.f k 4 0 1 0 0 false false 0 9).bind fun t135 => (some (t135 == 8))) else (some false)) else (some false)) else (some false)) else (some false)) = some r := H
  have A2 := Aside0.mk A20
  clear A20
  by_cases c3 : t132 = 0
  · rw [if_pos c3] at H
    have c3b0 : (t132 == 0) = true := beq_iff_eq.mpr c3
    have c3b1 : (t132 != 0) = false := bne_eq_false_iff_eq.mpr c3
    clear c3
    by_cases c4 : t134 = 0
    · rw [if_pos c4] at H
      have c4b0 : (t134 == 0) = true := beq_iff_eq.mpr c4
      have c4b1 : (t134 != 0) = false := bne_eq_false_iff_eq.mpr c4
      clear c4
      by_cases c5 : t131 = (IntKind.u64.wrap (-(4 : Int)))
      · rw [if_pos c5] at H
        have c5b0 : (t131 == (IntKind.u64.wrap (-(4 : Int)))) = true := beq_iff_eq.mpr c5
        have c5b1 : (t131 != (IntKind.u64.wrap (-(4 : Int)))) = false := bne_eq_false_iff_eq.mpr c5
        clear c5
        by_cases c6 : t133 = 18446744071562067968
        · rw [if_pos c6] at H
          have c6b0 : (t133 == 18446744071562067968) = true := beq_iff_eq.mpr c6
          have c6b1 : (t133 != 18446744071562067968) = false := bne_eq_false_iff_eq.mpr c6
          clear c6
          replace H := Option.bind_eq_some_iff.mp H
          obtain ⟨t135, A70, H⟩ := H
          replace H : (some (t135 == 8)) = some r := H
          have A7 := Aside0.mk A70
          clear A70
          obtain rfl := Option.some.inj H
          go_enter Try.func12, Try.ntmps12
          go_wp2_with (first | ((with_reducible refine gate_callee (f := 10) rfl ?_); refine goesL_ (some 10) rfl rfl Try.func10 (by kernel_rfl) rfl #[.agg #[.int .i64 30, .int .i64 1, .int .i64 1, .int .i64 0, .int .i64 1, .bool false, .bool false], .int .u64 0, .int .u64 (IntKind.u64.wrap (-8)), .int .u64 0] rfl (by (try simp only [List.map_toArray, List.map_cons, List.map_nil]); first | done | rfl | (simp only [List.length_drop, List.length_take]; rfl)) ?_; (with_reducible refine (alu_Value.calls 30 1 1 0 1 false false 0 (IntKind.u64.wrap (-8)) 0 t131 t132 _ A1.out).mono ?_); rintro e w8 ⟨rfl, hb⟩; refine ⟨_, rfl, ?_⟩; have n0_ := Aside0.mk (below_step (by repeat (first | (with_reducible first | exact HB.out | apply below_alloc | apply pw_below_drewN | apply below_drew1) | exact HB.out)) hb); clear HB; have HB := n0_; clear n0_; (try clear hb); (try clear hb2); (try clear hk); (try clear hi)) | ((with_reducible refine gate_callee (f := 10) rfl ?_); refine goesL_ (some 15) rfl rfl Try.func10 (by kernel_rfl) rfl #[.agg #[.int .i64 41, .int .i64 1, .int .i64 1, .int .i64 0, .int .i64 1, .bool false, .bool false], .int .u64 0, .int .u64 2147483647, .int .u64 0] rfl (by (try simp only [List.map_toArray, List.map_cons, List.map_nil]); first | done | rfl | (simp only [List.length_drop, List.length_take]; rfl)) ?_; (with_reducible refine (alu_Value.calls 41 1 1 0 1 false false 0 2147483647 0 t133 t134 _ A2.out).mono ?_); rintro e w9 ⟨rfl, hb⟩; refine ⟨_, rfl, ?_⟩; have n0_ := Aside0.mk (below_step (by repeat (first | (with_reducible first | exact HB.out | apply below_alloc | apply pw_below_drewN | apply below_drew1) | exact HB.out)) hb); clear HB; have HB := n0_; clear n0_; (try clear hb); (try clear hb2); (try clear hk); (try clear hi)) | (go_at_call 19; (with_reducible refine (alu_Target.calls k 4 0 1 0 0 false false 0 9 t135 _ A7.out).mono ?_); rintro e w10 ⟨rfl, hb⟩; have n0_ := Aside0.mk (below_step (by repeat (first | (with_reducible first | exact HB.out | apply below_alloc | apply pw_below_drewN | apply below_drew1) | exact HB.out)) hb); clear HB; have HB := n0_; clear n0_; (try clear hb); (try clear hb2); (try clear hk); (try clear hi)))
          go_ret
          exact ⟨by first | rfl | (simp [errW_none, errW_some] <;> rfl) | (simp [*, errW_none, errW_some] <;> rfl), by repeat (first | (with_reducible first | exact HB.out | apply below_alloc | apply pw_below_drewN | apply below_drew1) | exact HB.out)⟩
        · rw [if_neg c6] at H
          have c6b0 : (t133 == 18446744071562067968) = false := beq_eq_false_iff_ne.mpr c6
          have c6b1 : (t133 != 18446744071562067968) = true := bne_iff_ne.mpr c6
          obtain rfl := Option.some.inj H
          go_enter Try.func12, Try.ntmps12
          go_wp2_with (first | ((with_reducible refine gate_callee (f := 10) rfl ?_); refine goesL_ (some 10) rfl rfl Try.func10 (by kernel_rfl) rfl #[.agg #[.int .i64 30, .int .i64 1, .int .i64 1, .int .i64 0, .int .i64 1, .bool false, .bool false], .int .u64 0, .int .u64 (IntKind.u64.wrap (-8)), .int .u64 0] rfl (by (try simp only [List.map_toArray, List.map_cons, List.map_nil]); first | done | rfl | (simp only [List.length_drop, List.length_take]; rfl)) ?_; (with_reducible refine (alu_Value.calls 30 1 1 0 1 false false 0 (IntKind.u64.wrap (-8)) 0 t131 t132 _ A1.out).mono ?_); rintro e w11 ⟨rfl, hb⟩; refine ⟨_, rfl, ?_⟩; have n0_ := Aside0.mk (below_step (by repeat (first | (with_reducible first | exact HB.out | apply below_alloc | apply pw_below_drewN | apply below_drew1) | exact HB.out)) hb); clear HB; have HB := n0_; clear n0_; (try clear hb); (try clear hb2); (try clear hk); (try clear hi)) | ((with_reducible refine gate_callee (f := 10) rfl ?_); refine goesL_ (some 15) rfl rfl Try.func10 (by kernel_rfl) rfl #[.agg #[.int .i64 41, .int .i64 1, .int .i64 1, .int .i64 0, .int .i64 1, .bool false, .bool false], .int .u64 0, .int .u64 2147483647, .int .u64 0] rfl (by (try simp only [List.map_toArray, List.map_cons, List.map_nil]); first | done | rfl | (simp only [List.length_drop, List.length_take]; rfl)) ?_; (with_reducible refine (alu_Value.calls 41 1 1 0 1 false false 0 2147483647 0 t133 t134 _ A2.out).mono ?_); rintro e w12 ⟨rfl, hb⟩; refine ⟨_, rfl, ?_⟩; have n0_ := Aside0.mk (below_step (by repeat (first | (with_reducible first | exact HB.out | apply below_alloc | apply pw_below_drewN | apply below_drew1) | exact HB.out)) hb); clear HB; have HB := n0_; clear n0_; (try clear hb); (try clear hb2); (try clear hk); (try clear hi)))
          go_ret
          exact ⟨by first | rfl | (simp [errW_none, errW_some] <;> rfl) | (simp [*, errW_none, errW_some] <;> rfl), by repeat (first | (with_reducible first | exact HB.out | apply below_alloc | apply pw_below_drewN | apply below_drew1) | exact HB.out)⟩
      · rw [if_neg c5] at H
        have c5b0 : (t131 == (IntKind.u64.wrap (-(4 : Int)))) = false := beq_eq_false_iff_ne.mpr c5
        have c5b1 : (t131 != (IntKind.u64.wrap (-(4 : Int)))) = true := bne_iff_ne.mpr c5
        obtain rfl := Option.some.inj H
        go_enter Try.func12, Try.ntmps12
        go_wp2_with (first | ((with_reducible refine gate_callee (f := 10) rfl ?_); refine goesL_ (some 10) rfl rfl Try.func10 (by kernel_rfl) rfl #[.agg #[.int .i64 30, .int .i64 1, .int .i64 1, .int .i64 0, .int .i64 1, .bool false, .bool false], .int .u64 0, .int .u64 (IntKind.u64.wrap (-8)), .int .u64 0] rfl (by (try simp only [List.map_toArray, List.map_cons, List.map_nil]); first | done | rfl | (simp only [List.length_drop, List.length_take]; rfl)) ?_; (with_reducible refine (alu_Value.calls 30 1 1 0 1 false false 0 (IntKind.u64.wrap (-8)) 0 t131 t132 _ A1.out).mono ?_); rintro e w13 ⟨rfl, hb⟩; refine ⟨_, rfl, ?_⟩; have n0_ := Aside0.mk (below_step (by repeat (first | (with_reducible first | exact HB.out | apply below_alloc | apply pw_below_drewN | apply below_drew1) | exact HB.out)) hb); clear HB; have HB := n0_; clear n0_; (try clear hb); (try clear hb2); (try clear hk); (try clear hi)) | ((with_reducible refine gate_callee (f := 10) rfl ?_); refine goesL_ (some 15) rfl rfl Try.func10 (by kernel_rfl) rfl #[.agg #[.int .i64 41, .int .i64 1, .int .i64 1, .int .i64 0, .int .i64 1, .bool false, .bool false], .int .u64 0, .int .u64 2147483647, .int .u64 0] rfl (by (try simp only [List.map_toArray, List.map_cons, List.map_nil]); first | done | rfl | (simp only [List.length_drop, List.length_take]; rfl)) ?_; (with_reducible refine (alu_Value.calls 41 1 1 0 1 false false 0 2147483647 0 t133 t134 _ A2.out).mono ?_); rintro e w14 ⟨rfl, hb⟩; refine ⟨_, rfl, ?_⟩; have n0_ := Aside0.mk (below_step (by repeat (first | (with_reducible first | exact HB.out | apply below_alloc | apply pw_below_drewN | apply below_drew1) | exact HB.out)) hb); clear HB; have HB := n0_; clear n0_; (try clear hb); (try clear hb2); (try clear hk); (try clear hi)))
        go_ret
        exact ⟨by first | rfl | (simp [errW_none, errW_some] <;> rfl) | (simp [*, errW_none, errW_some] <;> rfl), by repeat (first | (with_reducible first | exact HB.out | apply below_alloc | apply pw_below_drewN | apply below_drew1) | exact HB.out)⟩
    · rw [if_neg c4] at H
      have c4b0 : (t134 == 0) = false := beq_eq_false_iff_ne.mpr c4
      have c4b1 : (t134 != 0) = true := bne_iff_ne.mpr c4
      obtain rfl := Option.some.inj H
      go_enter Try.func12, Try.ntmps12
      go_wp2_with (first | ((with_reducible refine gate_callee (f := 10) rfl ?_); refine goesL_ (some 10) rfl rfl Try.func10 (by kernel_rfl) rfl #[.agg #[.int .i64 30, .int .i64 1, .int .i64 1, .int .i64 0, .int .i64 1, .bool false, .bool false], .int .u64 0, .int .u64 (IntKind.u64.wrap (-8)), .int .u64 0] rfl (by (try simp only [List.map_toArray, List.map_cons, List.map_nil]); first | done | rfl | (simp only [List.length_drop, List.length_take]; rfl)) ?_; (with_reducible refine (alu_Value.calls 30 1 1 0 1 false false 0 (IntKind.u64.wrap (-8)) 0 t131 t132 _ A1.out).mono ?_); rintro e w15 ⟨rfl, hb⟩; refine ⟨_, rfl, ?_⟩; have n0_ := Aside0.mk (below_step (by repeat (first | (with_reducible first | exact HB.out | apply below_alloc | apply pw_below_drewN | apply below_drew1) | exact HB.out)) hb); clear HB; have HB := n0_; clear n0_; (try clear hb); (try clear hb2); (try clear hk); (try clear hi)) | ((with_reducible refine gate_callee (f := 10) rfl ?_); refine goesL_ (some 15) rfl rfl Try.func10 (by kernel_rfl) rfl #[.agg #[.int .i64 41, .int .i64 1, .int .i64 1, .int .i64 0, .int .i64 1, .bool false, .bool false], .int .u64 0, .int .u64 2147483647, .int .u64 0] rfl (by (try simp only [List.map_toArray, List.map_cons, List.map_nil]); first | done | rfl | (simp only [List.length_drop, List.length_take]; rfl)) ?_; (with_reducible refine (alu_Value.calls 41 1 1 0 1 false false 0 2147483647 0 t133 t134 _ A2.out).mono ?_); rintro e w16 ⟨rfl, hb⟩; refine ⟨_, rfl, ?_⟩; have n0_ := Aside0.mk (below_step (by repeat (first | (with_reducible first | exact HB.out | apply below_alloc | apply pw_below_drewN | apply below_drew1) | exact HB.out)) hb); clear HB; have HB := n0_; clear n0_; (try clear hb); (try clear hb2); (try clear hk); (try clear hi)))
      go_ret
      exact ⟨by first | rfl | (simp [errW_none, errW_some] <;> rfl) | (simp [*, errW_none, errW_some] <;> rfl), by repeat (first | (with_reducible first | exact HB.out | apply below_alloc | apply pw_below_drewN | apply below_drew1) | exact HB.out)⟩
  · rw [if_neg c3] at H
    have c3b0 : (t132 == 0) = false := beq_eq_false_iff_ne.mpr c3
    have c3b1 : (t132 != 0) = true := bne_iff_ne.mpr c3
    obtain rfl := Option.some.inj H
    go_enter Try.func12, Try.ntmps12
    go_wp2_with (first | ((with_reducible refine gate_callee (f := 10) rfl ?_); refine goesL_ (some 10) rfl rfl Try.func10 (by kernel_rfl) rfl #[.agg #[.int .i64 30, .int .i64 1, .int .i64 1, .int .i64 0, .int .i64 1, .bool false, .bool false], .int .u64 0, .int .u64 (IntKind.u64.wrap (-8)), .int .u64 0] rfl (by (try simp only [List.map_toArray, List.map_cons, List.map_nil]); first | done | rfl | (simp only [List.length_drop, List.length_take]; rfl)) ?_; (with_reducible refine (alu_Value.calls 30 1 1 0 1 false false 0 (IntKind.u64.wrap (-8)) 0 t131 t132 _ A1.out).mono ?_); rintro e w17 ⟨rfl, hb⟩; refine ⟨_, rfl, ?_⟩; have n0_ := Aside0.mk (below_step (by repeat (first | (with_reducible first | exact HB.out | apply below_alloc | apply pw_below_drewN | apply below_drew1) | exact HB.out)) hb); clear HB; have HB := n0_; clear n0_; (try clear hb); (try clear hb2); (try clear hk); (try clear hi)) | ((with_reducible refine gate_callee (f := 10) rfl ?_); refine goesL_ (some 15) rfl rfl Try.func10 (by kernel_rfl) rfl #[.agg #[.int .i64 41, .int .i64 1, .int .i64 1, .int .i64 0, .int .i64 1, .bool false, .bool false], .int .u64 0, .int .u64 2147483647, .int .u64 0] rfl (by (try simp only [List.map_toArray, List.map_cons, List.map_nil]); first | done | rfl | (simp only [List.length_drop, List.length_take]; rfl)) ?_; (with_reducible refine (alu_Value.calls 41 1 1 0 1 false false 0 2147483647 0 t133 t134 _ A2.out).mono ?_); rintro e w18 ⟨rfl, hb⟩; refine ⟨_, rfl, ?_⟩; have n0_ := Aside0.mk (below_step (by repeat (first | (with_reducible first | exact HB.out | apply below_alloc | apply pw_below_drewN | apply below_drew1) | exact HB.out)) hb); clear HB; have HB := n0_; clear n0_; (try clear hb); (try clear hb2); (try clear hk); (try clear hi)))
    go_ret
    exact ⟨by first | rfl | (simp [errW_none, errW_some] <;> rfl) | (simp [*, errW_none, errW_some] <;> rfl), by repeat (first | (with_reducible first | exact HB.out | apply below_alloc | apply pw_below_drewN | apply below_drew1) | exact HB.out)⟩

-- NOT PRINTED: function 13 (postbaglaw04_AluBack_1)

/-! ### postbaglaw04_AluBack: function 4 -/
theorem AluBack_1.c (op x y v : Int) (w : World)
    (hV : Hid (∀ W, Calls Try.prog 10 #[.agg #[.int .i64 op, .int .i64 1, .int .i64 1, .int .i64 2, .int .i64 0, .bool false, .bool false], .int .u64 0, .int .u64 x, .int .u64 y] W fun e w' => e = .returned (.tuple #[.int .u64 v, .int .i64 0]) ∧ Below W.heap.size W w')) :
    Calls Try.prog 13 #[.int .i64 op, .int .u64 x, .int .u64 y] w fun e w' => e = .returned (.int .u64 v) ∧ Below w.heap.size w w' := by
  go_enter Try.func13, Try.ntmps13
  go_wp2_with fail
  refine (hV.out _).mono ?_
  rintro e w1 ⟨rfl, hb⟩
  have hb := Lib.hid hb
  go_wp2_with fail
  go_ret
  exact ⟨rfl, hb.out⟩
set_option maxHeartbeats 4000000 in
theorem AluBack.w (a b n k v1 v3 v5 q m v7 v8 v9 : Int) (w : World) (hk : (IntKind.u64.wrap n).tmod 64 = k) (hm : wrap64 (IntKind.u64.wrap (64 - k)) = m)
    (h1 : Hid (∀ W, Calls Try.prog 13 #[.int .i64 31, .int .u64 a, .int .u64 b] W fun e w' => e = .returned (.int .u64 v1) ∧ Below W.heap.size W w'))
    (h2 : Hid (∀ W, Calls Try.prog 13 #[.int .i64 32, .int .u64 v1, .int .u64 b] W fun e w' => e = .returned (.int .u64 a) ∧ Below W.heap.size W w'))
    (h3 : Hid (∀ W, Calls Try.prog 13 #[.int .i64 36, .int .u64 a, .int .u64 b] W fun e w' => e = .returned (.int .u64 v3) ∧ Below W.heap.size W w'))
    (h4 : Hid (∀ W, Calls Try.prog 13 #[.int .i64 36, .int .u64 v3, .int .u64 b] W fun e w' => e = .returned (.int .u64 a) ∧ Below W.heap.size W w'))
    (h5 : Hid (∀ W, Calls Try.prog 13 #[.int .i64 33, .int .u64 a, .int .u64 k] W fun e w' => e = .returned (.int .u64 v5) ∧ Below W.heap.size W w'))
    (h6 : Hid (∀ W, Calls Try.prog 13 #[.int .i64 37, .int .u64 v5, .int .u64 k] W fun e w' => e = .returned (.int .u64 q) ∧ Below W.heap.size W w'))
    (hf : Hid (∀ W, Calls Try.prog 14 #[.int .u64 a, .int .i64 0, .int .i64 m] W fun e w' => e = .returned (.int .u64 q) ∧ Drawn0 W w'))
    (h7 : Hid (∀ W, Calls Try.prog 13 #[.int .i64 58, .int .u64 a, .int .u64 b] W fun e w' => e = .returned (.int .u64 v7) ∧ Below W.heap.size W w'))
    (h8 : Hid (∀ W, Calls Try.prog 13 #[.int .i64 53, .int .u64 v7, .int .u64 b] W fun e w' => e = .returned (.int .u64 v8) ∧ Below W.heap.size W w'))
    (h9 : Hid (∀ W, Calls Try.prog 13 #[.int .i64 60, .int .u64 a, .int .u64 b] W fun e w' => e = .returned (.int .u64 v9) ∧ Below W.heap.size W w'))
    (h10 : Hid (∀ W, Calls Try.prog 13 #[.int .i64 31, .int .u64 v8, .int .u64 v9] W fun e w' => e = .returned (.int .u64 a) ∧ Below W.heap.size W w'))
    (hl : Hid (∀ W, Calls Try.prog 12 #[] W fun e w' => e = .returned (.bool true) ∧ Below W.heap.size W w')) :
    Calls Try.prog 4 #[.int .u64 a, .int .u64 b, .int .i64 n] w fun e w' => e = .returned (.bool true) ∧ Below w.heap.size w w' := by
  have HB := Lib.hid (Below.refl w.heap.size w)
  go_enter Try.func4, Try.ntmps4
  go_wp2_with fail
  refine (h1.out _).mono ?_
  rintro e w1 ⟨rfl, hd⟩
  replace HB := Lib.hid (HB.out.trans (hd.mono HB.out.size))
  clear hd
  go_wp2_with fail
  refine (h2.out _).mono ?_
  rintro e w2 ⟨rfl, hd⟩
  replace HB := Lib.hid (HB.out.trans (hd.mono HB.out.size))
  clear hd
  go_wp2_with fail
  refine (h3.out _).mono ?_
  rintro e w3 ⟨rfl, hd⟩
  replace HB := Lib.hid (HB.out.trans (hd.mono HB.out.size))
  clear hd
  go_wp2_with fail
  refine (h4.out _).mono ?_
  rintro e w4 ⟨rfl, hd⟩
  replace HB := Lib.hid (HB.out.trans (hd.mono HB.out.size))
  clear hd
  go_wp2_with fail
  refine (h5.out _).mono ?_
  rintro e w5 ⟨rfl, hd⟩
  replace HB := Lib.hid (HB.out.trans (hd.mono HB.out.size))
  clear hd
  go_wp2_with fail
  refine (h6.out _).mono ?_
  rintro e w6 ⟨rfl, hd⟩
  replace HB := Lib.hid (HB.out.trans (hd.mono HB.out.size))
  clear hd
  go_wp2_with fail
  refine (hf.out _).mono ?_
  rintro e w' ⟨rfl, ⟨nd, rfl⟩⟩
  replace HB := Lib.hid (below_drewN HB.out nd)
  go_wp2_with fail
  refine (h7.out _).mono ?_
  rintro e w8 ⟨rfl, hd⟩
  replace HB := Lib.hid (HB.out.trans (hd.mono HB.out.size))
  clear hd
  go_wp2_with fail
  refine (h8.out _).mono ?_
  rintro e w9 ⟨rfl, hd⟩
  replace HB := Lib.hid (HB.out.trans (hd.mono HB.out.size))
  clear hd
  go_wp2_with fail
  refine (h9.out _).mono ?_
  rintro e w10 ⟨rfl, hd⟩
  replace HB := Lib.hid (HB.out.trans (hd.mono HB.out.size))
  clear hd
  go_wp2_with fail
  refine (h10.out _).mono ?_
  rintro e w11 ⟨rfl, hd⟩
  replace HB := Lib.hid (HB.out.trans (hd.mono HB.out.size))
  clear hd
  go_wp2_with fail
  refine (hl.out _).mono ?_
  rintro e w12 ⟨rfl, hd⟩
  replace HB := Lib.hid (HB.out.trans (hd.mono HB.out.size))
  clear hd
  go_wp2_with fail
  go_ret
  exact ⟨rfl, HB.out⟩
theorem back_value (op x y v : Int) (hg : goodOf op 1 1 2 0 false false = true) (hx : U64 x) (hy : U64 y) (hv : valueOf op 0 0 x y = (v, 0)) : Hid (∀ W, Calls Try.prog 13 #[.int .i64 op, .int .u64 x, .int .u64 y] W fun e w' => e = .returned (.int .u64 v) ∧ Below W.heap.size W w') :=
  Lib.hid fun W => AluBack_1.c op x y v W (Lib.hid fun W' => alu_Value.calls op 1 1 2 0 false false 0 x y v 0 W' (by unfold alu_Value.f; rw [if_pos (show I64 0 ∧ U64 x ∧ U64 y from ⟨by decide, hx, hy⟩), if_pos hg, hv]))
theorem back_lives : postbaglaw04_lives.f 2 = some true := by
  unfold postbaglaw04_lives.f alu_Value.f
  rw [if_pos ⟨by decide, U64.wrap _, by decide⟩, if_pos (by decide +kernel), if_pos ⟨by decide, by decide, by decide⟩, if_pos (by decide +kernel)]
  have e1 : valueOf 30 1 0 (IntKind.u64.wrap (-8)) 0 = (IntKind.u64.wrap (-4), 0) := by decide +kernel
  have e2 : valueOf 41 1 0 2147483647 0 = (18446744071562067968, 0) := by decide +kernel
  have e3 : Go.bits .andNot .u64 (IntKind.u64.wrap (9 + IntKind.u64.wrap 0)) 1 = 8 := by decide +kernel
  rw [e1, e2]
  simp [alu_Target.f, alu_Target.j0, e3]
theorem field64 (x : Int) (hx : U64 x) : fieldOf x 0 64 = x := by
  rw [show fieldOf x 0 64 = x / 2 ^ 0 % 2 ^ 64 from field_lit x 0 64 (by omega) (by omega) (by omega)]
  unfold U64 at hx
  simp; omega
theorem shift_back (a : Int) (ha : U64 a) (k : Nat) (hk : k < 64) : IntKind.u64.wrap (a * 2 ^ k) / 2 ^ k = fieldOf a 0 (64 - (k : Int)) := by
  obtain ⟨n, rfl, hn⟩ := ha.nat
  have h := field_nat n 0 (64 - k) (by omega) (by omega)
  rw [show ((64 - k : Nat) : Int) = 64 - (k : Int) by omega, show ((0 : Nat) : Int) = 0 from rfl] at h
  rw [h, u64w, show min (64 - k) 64 = 64 - k by omega, show (18446744073709551616 : Int) = ((2 ^ 64 : Nat) : Int) from rfl, show ((n : Int) * 2 ^ k) = ((n * 2 ^ k : Nat) : Int) by simp, show ((2 : Int) ^ k) = ((2 ^ k : Nat) : Int) by simp]
  rw [← Int.natCast_emod, ← Int.natCast_ediv]
  congr 1
  rw [show (2 : Nat) ^ 64 = 2 ^ (64 - k) * 2 ^ k by rw [← Nat.pow_add]; congr 1; omega, Nat.mul_mod_mul_right, Nat.mul_div_cancel _ (Nat.two_pow_pos k)]
  simp
theorem postbaglaw04_AluBack.all (a0 : Int) (a1 : Int) (a2 : Int) (w : World) (w0 : (Lit.int .u64 a0).wf = true) (w1 : (Lit.int .u64 a1).wf = true) (w2 : (Lit.int .i64 a2).wf = true) :
    Calls Try.prog 4 #[.int .u64 a0, .int .u64 a1, .int .i64 a2] w fun e w' => e = .returned (.bool true) ∧ Below w.heap.size w w' := by
  have ha := U64.of_wf w0
  have hb := U64.of_wf w1
  have hu := U64.wrap a2
  obtain ⟨k, hk, ek⟩ : ∃ k : Nat, k < 64 ∧ (IntKind.u64.wrap a2).tmod 64 = (k : Int) := by
    generalize IntKind.u64.wrap a2 = u at *
    unfold U64 at hu
    refine ⟨(u % 64).toNat, by omega, ?_⟩
    rw [Int.tmod_eq_emod_of_nonneg hu.1]; omega
  have hK : U64 (k : Int) := by unfold U64; omega
  have i0 : ∀ op x y, immB op = false → shortB op = false → 5 ≤ op → (sizedOf op x y 64).2 = true → valueOf op 0 0 x y = ((sizedOf op x y 64).1, 0) := by
    intro op x y hi hs h5 h2
    unfold valueOf valueAt
    rw [if_neg (by omega), if_neg (by omega), if_neg (by omega), hs, hi]
    simp [h2]
  have c64 : ∀ x, U64 x → cutOf x 64 false = x := fun x hx => by unfold cutOf; exact field64 x hx
  have v31 : ∀ x y, valueOf 31 0 0 x y = (IntKind.u64.wrap (x + y), 0) := fun x y => by rw [i0 31 x y (by decide) (by decide) (by decide) (by simp [sizedOf])]; simp [sizedOf]
  have v32 : ∀ x y, valueOf 32 0 0 x y = (IntKind.u64.wrap (x - y), 0) := fun x y => by rw [i0 32 x y (by decide) (by decide) (by decide) (by simp [sizedOf])]; simp [sizedOf]
  have v53 : ∀ x y, valueOf 53 0 0 x y = (IntKind.u64.wrap (x * y), 0) := fun x y => by rw [i0 53 x y (by decide) (by decide) (by decide) (by simp [sizedOf])]; simp [sizedOf]
  have v33 : ∀ x, valueOf 33 0 0 x k = (IntKind.u64.wrap (x * 2 ^ k), 0) := fun x => by
    rw [i0 33 x k (by decide) (by decide) (by decide) (by simp [sizedOf])]; simp [sizedOf, show (k : Int) % 64 = k by omega]
  have v37 : ∀ x, U64 x → valueOf 37 0 0 x k = (x / 2 ^ k, 0) := fun x hx => by
    rw [i0 37 x k (by decide) (by decide) (by decide) (by simp [sizedOf])]; simp [sizedOf, rightOf, rsh, c64 x hx, show (k : Int) % 64 = k by omega]
  have v58 : ∀ x y, U64 x → U64 y → valueOf 58 0 0 x y = (quoOf x y false, 0) := fun x y hx hy => by
    rw [i0 58 x y (by decide) (by decide) (by decide) (by simp [sizedOf])]; simp [sizedOf, c64 x hx, c64 y hy]
  have v60 : ∀ x y, U64 x → U64 y → valueOf 60 0 0 x y = (remOf x y false, 0) := fun x y hx hy => by
    rw [i0 60 x y (by decide) (by decide) (by decide) (by simp [sizedOf])]; simp [sizedOf, c64 x hx, c64 y hy]
  have v36 : ∀ x y, valueOf 36 0 0 x y = (Go.bits .xor .u64 x y, 0) := fun x y => by simp [valueOf, valueAt, show immB 36 = false by decide, show shortB 36 = false by decide, sizedOf, othersOf]
  have hx : U64 (Go.bits .xor .u64 a0 a1) ∧ Go.bits .xor .u64 (Go.bits .xor .u64 a0 a1) a1 = a0 := by
    obtain ⟨a, rfl, la⟩ := ha.nat
    obtain ⟨b, rfl, lb⟩ := hb.nat
    rw [xor_nat a b la lb, xor_nat _ b (Nat.xor_lt_two_pow la lb) lb, Nat.xor_assoc, Nat.xor_self, Nat.xor_zero]
    exact ⟨U64.mk (Nat.xor_lt_two_pow la lb), rfl⟩
  have hq : U64 (quoOf a0 a1 false) ∧ U64 (remOf a0 a1 false) ∧ IntKind.u64.wrap (IntKind.u64.wrap (quoOf a0 a1 false * a1) + remOf a0 a1 false) = a0 := by
    unfold quoOf remOf
    unfold U64 at ha hb
    by_cases h : a1 = 0
    · subst h
      simp only [if_true, u64w]
      refine ⟨by unfold U64; omega, ha, by omega⟩
    · rw [if_neg h, if_neg h]
      simp only [Bool.false_eq_true, if_false]
      have q0 := Int.ediv_nonneg ha.1 hb.1
      have q1 := Int.ediv_le_self (b := a1) (a := a0) (by omega)
      have r0 := Int.emod_nonneg a0 h
      have r1 := Int.emod_lt_of_pos a0 (show 0 < a1 by omega)
      have e := Int.mul_ediv_add_emod a0 a1
      rw [Int.mul_comm] at e
      have m0 := Int.mul_nonneg q0 hb.1
      generalize a0 / a1 * a1 = p at *
      refine ⟨by unfold U64; omega, by unfold U64; omega, ?_⟩
      rw [u64w, u64w]; omega
  refine AluBack.w a0 a1 a2 k (IntKind.u64.wrap (a0 + a1)) (Go.bits .xor .u64 a0 a1) (IntKind.u64.wrap (a0 * 2 ^ k)) (fieldOf a0 0 (64 - (k : Int))) (64 - (k : Int)) (quoOf a0 a1 false) (IntKind.u64.wrap (quoOf a0 a1 false * a1)) (remOf a0 a1 false) w ek (by rw [u64w]; unfold wrap64; omega) ?_ ?_ ?_ ?_ ?_ ?_ ?_ ?_ ?_ ?_ ?_ ?_
  · exact back_value 31 _ _ _ (by decide +kernel) ha hb (v31 _ _)
  · refine back_value 32 _ _ _ (by decide +kernel) (U64.wrap _) hb ((v32 _ _).trans ?_)
    unfold U64 at ha hb
    rw [u64w, u64w]; congr 1; omega
  · exact back_value 36 _ _ _ (by decide +kernel) ha hb (v36 _ _)
  · exact back_value 36 _ _ _ (by decide +kernel) hx.1 hb ((v36 _ _).trans (by rw [hx.2]))
  · exact back_value 33 _ _ _ (by decide +kernel) ha hK (v33 _)
  · exact back_value 37 _ _ _ (by decide +kernel) (U64.wrap _) hK ((v37 _ (U64.wrap _)).trans (by rw [shift_back a0 ha k hk]))
  · exact Lib.hid fun W => bits_Field.calls a0 0 (64 - (k : Int)) _ W (by unfold bits_Field.f; rw [if_pos ha])
  · exact back_value 58 _ _ _ (by decide +kernel) ha hb (v58 _ _ ha hb)
  · exact back_value 53 _ _ _ (by decide +kernel) hq.1 hb (v53 _ _)
  · exact back_value 60 _ _ _ (by decide +kernel) ha hb (v60 _ _ ha hb)
  · exact back_value 31 _ _ _ (by decide +kernel) (U64.wrap _) hq.2.1 ((v31 _ _).trans (by rw [hq.2.2]))
  · exact Lib.hid fun W => postbaglaw04_lives.calls 2 true W back_lives


end Go.Proofs.Ytjdidadafccepaa.PAluBack
