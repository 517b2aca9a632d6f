/- DERIVED. The contracts of the Go functions that one law reaches: each call returns what the plain function beside it says, under that theorem's own premises. Written by a program (hp.py) over the kit's printed words. -/
import Derived.Test.YtcjfafhbohkhlaaPAllx0
import Derived.Test.YtcjfafhbohkhlaaPAllx1
import Derived.Test.YtcjfafhbohkhlaaPAllx2
import Derived.Test.YtcjfafhbohkhlaaPAllx3
namespace Go.Proofs.Ytcjfafhbohkhlaa.PAll
open Go.RowKit Go.Proofs.YtcjfafhbohkhlaaW.PrintWords Go.Proofs.YtcjfafhbohkhlaaW.PrintLast Go.Proofs.YtcjfafhbohkhlaaW.PrintMore Go.Proofs.Ytcjfafhbohkhlaa.M
attribute [local go_sem] max2_int min2_int max_two min_two max_three min_three max_four min_four   -- for this text's walks alone
set_option linter.unusedVariables false
set_option linter.unusedSimpArgs false

attribute [local go_sem high] eqA37
/-! ### inst_Good: function 32 -/
set_option maxHeartbeats 2000000 in
theorem inst_Good.w (a0_0 a0_1 a0_2 a0_3 a0_4 f c x3 x7 m r2 r3 r4 : Int) (a0_5 a0_6 r6 r7 p1 p2 p3 p4 p5 p6 : Bool) (w : World)
    (hO : Hid (∀ W, Calls Try.prog 34 #[.int .i64 a0_0] W fun e w' => e = .returned (.agg #[.int .i64 f, .int .i64 c, .int .i64 x3, .int .i64 x7]) ∧ Below W.heap.size W w'))
    (hF : Hid (∀ W, Calls Try.prog 51 #[.int .i64 f] W fun e w' => e = .returned (.int .i64 m) ∧ Below W.heap.size W w'))
    (hK : Hid (∀ W, Calls Try.prog 50 #[.agg #[.int .i64 a0_0, .int .i64 a0_1, .int .i64 a0_2, .int .i64 a0_3, .int .i64 a0_4, .bool a0_5, .bool a0_6], .int .i64 m] W fun e w' => e = .returned (.agg #[.int .i64 a0_0, .int .i64 r2, .int .i64 r3, .int .i64 r4, .int .i64 a0_4, .bool r6, .bool r7]) ∧ Below W.heap.size W w'))
    (h3 : Hid (∀ W, Calls Try.prog 52 #[.int .i64 a0_1, .int .i64 31] W fun e w' => e = .returned (.bool p3) ∧ Below W.heap.size W w'))
    (h4 : Hid (∀ W, Calls Try.prog 52 #[.int .i64 a0_2, .int .i64 31] W fun e w' => e = .returned (.bool p4) ∧ Below W.heap.size W w'))
    (h5 : Hid (∀ W, Calls Try.prog 52 #[.int .i64 a0_3, .int .i64 31] W fun e w' => e = .returned (.bool p5) ∧ Below W.heap.size W w'))
    (h6 : Hid (∀ W, Calls Try.prog 53 #[.int .i64 f, .int .i64 a0_4] W fun e w' => e = .returned (.bool p6) ∧ Below W.heap.size W w'))
    (q1 : Hid (decide (0 < f) = p1)) (q2 : Hid ((a0_1 == r2 && (a0_2 == r3 && (a0_3 == r4 && (a0_5 == r6 && a0_6 == r7)))) = p2)) :
    Calls Try.prog 32 #[.agg #[.int .i64 a0_0, .int .i64 a0_1, .int .i64 a0_2, .int .i64 a0_3, .int .i64 a0_4, .bool a0_5, .bool a0_6]] w fun e w' => e = .returned (.bool (p1 && (p2 && (p3 && (p4 && (p5 && p6)))))) ∧ Below w.heap.size w w' := by
  have cs : p1 = false ∨ p1 = true ∧ p2 = false ∨ p1 = true ∧ p2 = true ∧ p3 = false ∨ p1 = true ∧ p2 = true ∧ p3 = true ∧ p4 = false ∨ p1 = true ∧ p2 = true ∧ p3 = true ∧ p4 = true ∧ p5 = false ∨ p1 = true ∧ p2 = true ∧ p3 = true ∧ p4 = true ∧ p5 = true := by
    cases p1 <;> cases p2 <;> cases p3 <;> cases p4 <;> cases p5 <;> simp
  have hu := Try.underlying37
  rcases cs with rfl | ⟨rfl, rfl⟩ | ⟨rfl, rfl, rfl⟩ | ⟨rfl, rfl, rfl, rfl⟩ | ⟨rfl, rfl, rfl, rfl, rfl⟩ | ⟨rfl, rfl, rfl, rfl, rfl⟩
  all_goals (
    go_enter Try.func32, Try.ntmps32
    go_wp2_with fail
    refine (hO.out _).mono ?_
    rintro e w1 ⟨rfl, hb⟩
    have B1 := (Blk.new w _ _).below hb
    have hb := Lib.hid ((((Below.refl w.heap.size w).alloc (Nat.le_refl _) _).trans (hb.mono (by simp))))
    have c1 := B1.cell
    have l1 := B1.lt
    have B1 := Lib.hid B1
    go_wp2_with fail
    generalize hX : World.alloc w1 _ = X
    have K1 := B1.out.alloc_eq hX
    have K2 := Blk.new_eq hX
    have HX := Lib.hid (below_alloc_eq hb.out hb.out.size hX)
    clear hX c1 l1 B1 hb
    have k1 := K1.gcell
    have k2 := K2.gcell
    have q1 := q1.out
    have q2 := q2.out
    refine wp_region_quiet_below (by kernel_rfl) (by kernel_rfl) ?_
    repeat (first | go_big_quiet_step ((first | (go_at_call 51; exact in_grow hF.out _ _) | (go_at_call 50; exact in_grow hK.out _ _) | (go_at_call 52; with_reducible first | exact in_grow h3.out _ _ | exact in_grow h4.out _ _ | exact in_grow h5.out _ _) | (go_at_call 53; exact in_grow h6.out _ _))) | quiet_step ((first | (go_at_call 51; exact in_grow hF.out _ _) | (go_at_call 50; exact in_grow hK.out _ _) | (go_at_call 52; with_reducible first | exact in_grow h3.out _ _ | exact in_grow h4.out _ _ | exact in_grow h5.out _ _) | (go_at_call 53; exact in_grow h6.out _ _))))
    refine wpQuiet_nil ?_
    intro _ hw'
    obtain ⟨⟨dq, osq⟩, hw''⟩ := hw'
    subst hw''
    go_wp2
    go_ret
    exact ⟨rfl, HX.out.trans ((below_regrown X dq osq).mono HX.out.size)⟩)
def inst_Good.f (a0_0 : Int) (a0_1 : Int) (a0_2 : Int) (a0_3 : Int) (a0_4 : Int) (a0_5 : Bool) (a0_6 : Bool) : Option (Bool) := if I64 a0_4 then some (goodOf a0_0 a0_1 a0_2 a0_3 a0_4 a0_5 a0_6) else none
theorem inst_Good.calls (a0_0 : Int) (a0_1 : Int) (a0_2 : Int) (a0_3 : Int) (a0_4 : Int) (a0_5 : Bool) (a0_6 : Bool) (r : Bool) (w : World) (h : inst_Good.f a0_0 a0_1 a0_2 a0_3 a0_4 a0_5 a0_6 = some r) :
    Calls Try.prog 32 #[.agg #[.int .i64 a0_0, .int .i64 a0_1, .int .i64 a0_2, .int .i64 a0_3, .int .i64 a0_4, .bool a0_5, .bool a0_6]] w fun e w' => e = .returned (.bool r) ∧ Below w.heap.size w w' := by
  unfold inst_Good.f at h
  by_cases hI : I64 a0_4
  case neg => rw [if_neg hI] at h; simp at h
  rw [if_pos hI] at h
  obtain rfl := Option.some.inj h
  obtain ⟨k1, k2, k3, k4, k5, k6⟩ := fields_has (formOf a0_0)
  refine (inst_Good.w a0_0 a0_1 a0_2 a0_3 a0_4 (formOf a0_0) (codeOf a0_0) (f3Of a0_0) (f7Of a0_0) (fieldsOf (formOf a0_0)) _ _ _ a0_5 a0_6 _ _ _ _ (decide (0 ≤ a0_1 ∧ a0_1 ≤ 31)) (decide (0 ≤ a0_2 ∧ a0_2 ≤ 31)) (decide (0 ≤ a0_3 ∧ a0_3 ≤ 31)) (immOf (formOf a0_0) a0_4) w
    (fun W => inst_of.calls a0_0 _ _ _ _ W rfl) (fun W => (inst_fields.calls (formOf a0_0) _ W rfl).mono fun _ _ ⟨h1, h2⟩ => ⟨h1, h2.below⟩)
    (fun W => inst_kept.calls a0_0 a0_1 a0_2 a0_3 a0_4 a0_5 a0_6 (fieldsOf (formOf a0_0)) _ _ _ _ _ _ _ W (by unfold inst_kept.f; rw [if_pos ⟨k5, k6⟩]))
    (fun W => (inst_within.calls a0_1 31 _ W (by unfold inst_within.f; by_cases h : 0 ≤ a0_1 <;> simp [h])).mono fun _ _ ⟨h1, h2⟩ => ⟨h1, h2.below⟩)
    (fun W => (inst_within.calls a0_2 31 _ W (by unfold inst_within.f; by_cases h : 0 ≤ a0_2 <;> simp [h])).mono fun _ _ ⟨h1, h2⟩ => ⟨h1, h2.below⟩)
    (fun W => (inst_within.calls a0_3 31 _ W (by unfold inst_within.f; by_cases h : 0 ≤ a0_3 <;> simp [h])).mono fun _ _ ⟨h1, h2⟩ => ⟨h1, h2.below⟩)
    (fun W => (inst_may.calls (formOf a0_0) a0_4 _ W (by unfold inst_may.f; rw [if_pos hI])).mono fun _ _ ⟨h1, h2⟩ => ⟨h1, h2.below⟩)
    rfl rfl).mono ?_
  rintro e w' ⟨rfl, hb⟩
  refine ⟨?_, hb⟩
  congr 2
  rw [k1, k2, k3, k4]
  unfold goodOf regOf keep
  have kz : ∀ (b : Bool) (r : Int), (r == (if b = true then r else 0)) = (b || r == 0) := by intro b r; cases b <;> simp
  have zp : ∀ r : Int, (r == 0) = true → decide (0 ≤ r ∧ r ≤ 31) = true := by intro r h; have := eq_of_beq h; subst this; rfl
  have zp1 := zp a0_1
  have zp2 := zp a0_2
  have zp3 := zp a0_3
  simp only [kz]
  generalize hasRd (formOf a0_0) = b1
  generalize hasRs1 (formOf a0_0) = b2
  generalize hasRs2 (formOf a0_0) = b3
  generalize hasAq (formOf a0_0) = b4
  generalize immOf (formOf a0_0) a0_4 = b5
  generalize decide (0 < formOf a0_0) = b6
  generalize (a0_1 == 0) = z1 at *
  generalize (a0_2 == 0) = z2 at *
  generalize (a0_3 == 0) = z3 at *
  generalize decide (0 ≤ a0_1 ∧ a0_1 ≤ 31) = p1 at *
  generalize decide (0 ≤ a0_2 ∧ a0_2 ≤ 31) = p2 at *
  generalize decide (0 ≤ a0_3 ∧ a0_3 ≤ 31) = p3 at *
  clear k1 k2 k3 k4 k5 k6 hI h hb kz zp
  revert zp1 zp2 zp3
  clear a0_0 a0_1 a0_2 a0_3 a0_4 w w'
  revert b1 b2 b3 b4 b5 b6 z1 z2 z3 p1 p2 p3 a0_5 a0_6
  decide +kernel


/-! ### inst_row_high0: function 35 -/
def inst_row_high0.j0 : Nat → Int → Bool → Int → Int → Int → Int → Option (Int)
  | 0, _, _, _, _, _, _ => none
  | k + 1, x4, x5, x112000, x112001, x112002, x112003 => if x5 = true then (some (IntKind.u64.wrap ((IntKind.u64.wrap (x112003)) * 33554432))) else (if x4 = 10 then (some (IntKind.u64.wrap ((IntKind.u64.wrap (x112003)) * 1048576))) else (if x4 = 11 then (some (IntKind.u64.wrap ((IntKind.u64.wrap (x112003)) * 134217728))) else (if x4 = 12 then (some (IntKind.u64.wrap ((IntKind.u64.wrap (x112003)) * 134217728))) else (some 0))))
def inst_row_high0.f (k : Nat) (a0_0 : Int) (a0_1 : Int) (a0_2 : Int) (a0_3 : Int) : Option (Int) := if a0_0 = 6 then (inst_row_high0.j0 k a0_0 (a0_0 == 6) a0_0 a0_1 a0_2 a0_3) else (if a0_0 = 7 then (inst_row_high0.j0 k a0_0 (a0_0 == 7) a0_0 a0_1 a0_2 a0_3) else (inst_row_high0.j0 k a0_0 (a0_0 == 8) a0_0 a0_1 a0_2 a0_3))
theorem inst_row_high0.mono_l : ∀ k, (∀ y0 y1 y2 y3 y4 y5, LeO (inst_row_high0.j0 k y0 y1 y2 y3 y4 y5) (inst_row_high0.j0 (k + 1) y0 y1 y2 y3 y4 y5))
  | 0 => fun _ _ _ _ _ _ r h => by simp [inst_row_high0.j0] at h
  | k + 1 => by
    have ih0 := inst_row_high0.mono_l k
    · intro y0 y1 y2 y3 y4 y5
      unfold inst_row_high0.j0
      repeat' first
      | (with_reducible exact ih0 _ _ _ _ _ _)
      | (with_reducible exact LeO.refl _)
      | (with_reducible exact LeO.none _)
      | (with_reducible refine LeO.ite ?_ ?_)
      | (with_reducible refine LeO.bind ?_ (fun _ => ?_))
      | exact ih0 _ _ _ _ _ _
      | exact LeO.none _
      | refine LeO.ite ?_ ?_
      | refine LeO.bind ?_ (fun _ => ?_)
theorem inst_row_high0.mono : ∀ a0 a1 a2 a3 k, LeO (inst_row_high0.f k a0 a1 a2 a3) (inst_row_high0.f (k + 1) a0 a1 a2 a3) := by
  intro a0 a1 a2 a3 k
  have ih0 := inst_row_high0.mono_l k
  unfold inst_row_high0.f
  repeat' first
      | (with_reducible exact ih0 _ _ _ _ _ _)
      | (with_reducible exact LeO.refl _)
      | (with_reducible exact LeO.none _)
      | (with_reducible refine LeO.ite ?_ ?_)
      | (with_reducible refine LeO.bind ?_ (fun _ => ?_))
      | exact ih0 _ _ _ _ _ _
      | exact LeO.none _
      | refine LeO.ite ?_ ?_
      | refine LeO.bind ?_ (fun _ => ?_)
set_option maxHeartbeats 8000000 in
set_option maxRecDepth 100000 in
theorem inst_row_high0.calls (k : Nat) (a0_0 : Int) (a0_1 : Int) (a0_2 : Int) (a0_3 : Int) (r : Int) (w : World) (h : inst_row_high0.f k a0_0 a0_1 a0_2 a0_3 = some r) :
    Calls Try.prog 35 #[.agg #[.int .i64 a0_0, .int .i64 a0_1, .int .i64 a0_2, .int .i64 a0_3]] w fun e w' => e = .returned (.int .u64 r) ∧ Below w.heap.size w w' := by
  have hu74 := Try.underlying74
  have HB := Aside0.mk (Below.refl w.heap.size w)
  have H : (if a0_0 = 6 then (inst_row_high0.j0 k a0_0 (a0_0 == 6) a0_0 a0_1 a0_2 a0_3) else (if a0_0 = 7 then (inst_row_high0.j0 k a0_0 (a0_0 == 7) a0_0 a0_1 a0_2 a0_3) else (inst_row_high0.j0 k a0_0 (a0_0 == 8) a0_0 a0_1 a0_2 a0_3))) = some r := h
  clear h
  have HC2 := Aside0.mk H
  clear H
  go_enter Try.func35, Try.ntmps35
  go_upto_if 5 with (first | ((with_reducible refine gate_dst (N := 1) rfl ?_); refine box_event ?hg (N := 1) ?hd (cs := #[.int .i64 a0_0, .int .i64 a0_1, .int .i64 a0_2, .int .i64 a0_3]) (t := 74) ?hr ?_; (case hd => rfl); (case hg => rfl); (case hr => first | (go_simp; done) | (go_simp; rfl)); intro gb111 hg w3 hbox hb; have n0_ := Aside0.mk (below_step (by repeat (first | (with_reducible first | exact HB.out | apply below_alloc | apply pw_below_drewN | apply below_drew1) | exact HB.out)) hb); have n1_ := Aside0.mk (hbox); have n2_ := Aside0.mk ((by rw [hg]; exact (below_size (by repeat (first | (with_reducible first | exact HB.out | apply below_alloc | apply pw_below_drewN | apply below_drew1) | exact HB.out))) : w.heap.size ≤ gb111)); have n3_ := Aside0.mk ((by rw [hg]; exact (below_size (by repeat (first | (with_reducible first | exact HB.out | apply below_alloc | apply pw_below_drewN | apply below_drew1) | exact HB.out))) : w.heap.size ≤ gb111)); clear HB; have HB := n0_; have BK111 := n1_; have GW111 := n2_; have GE111 := n3_; clear n0_ n1_ n2_ n3_; clear hb hbox hg; have hcz4_0 : w3.cell? ⟨gb111, 0, none⟩ = some (.int .i64 a0_0) := (blk_cell BK111.out 0).trans rfl; have hcz4_1 : w3.cell? ⟨gb111, 1, none⟩ = some (.int .i64 a0_1) := (blk_cell BK111.out 1).trans rfl; have hcz4_2 : w3.cell? ⟨gb111, 2, none⟩ = some (.int .i64 a0_2) := (blk_cell BK111.out 2).trans rfl; have hcz4_3 : w3.cell? ⟨gb111, 3, none⟩ = some (.int .i64 a0_3) := (blk_cell BK111.out 3).trans rfl; have hfz4_0 := blk_frozen BK111.out 0; have hfz4_1 := blk_frozen BK111.out 1; have hfz4_2 := blk_frozen BK111.out 2; have hfz4_3 := blk_frozen BK111.out 3))
  (try simp only [Act.put, List.setIfInBounds_toArray, List.set_cons_zero, List.set_cons_succ])
  go_cut [5] (fun v5 wc => ∃ (kq : Nat) (x5_1 : Bool), v5 = .bool x5_1 ∧ Aside0 (inst_row_high0.j0 kq a0_0 x5_1 a0_0 a0_1 a0_2 a0_3 = some r) ∧ Aside0 (kq ≤ k) ∧ Aside0 (wc.heap[gb111]? = some (.cells #[.int .i64 a0_0, .int .i64 a0_1, .int .i64 a0_2, .int .i64 a0_3] 74 (0, 0))) ∧ Aside0 (Below w.heap.size w wc))
  case first =>
    have H := HC2.out
    clear HC2
    by_cases c5 : a0_0 = 6
    · rw [if_pos c5] at H
      have c5b0 : (a0_0 == 6) = true := beq_iff_eq.mpr c5
      have c5b1 : (a0_0 != 6) = false := bne_eq_false_iff_eq.mpr c5
      clear c5
      (first | rw [c5b0] | (simp only [i64_w, i32_w]; rw [c5b0]) | skip)
      have H' := Aside0.mk H
      clear H
      go_wp2
      go_meet
      case rel => exact ⟨_, ((a0_0 == 6)), (by first | rfl | (simp; done) | (simp [*]; done)), H', ⟨by first | omega | exact Nat.le_refl _⟩, ⟨by (with_reducible repeat (first | refine blk_drewN ?_ _ | refine blk_drew ?_ | refine blk_alloc ?_ _)); exact BK111.out⟩, ⟨by repeat (first | (with_reducible first | exact HB.out | apply below_alloc | apply pw_below_drewN | apply below_drew1 | refine below_set ?_ GE111.out) | exact HB.out)⟩⟩
    · rw [if_neg c5] at H
      have c5b0 : (a0_0 == 6) = false := beq_eq_false_iff_ne.mpr c5
      have c5b1 : (a0_0 != 6) = true := bne_iff_ne.mpr c5
      (first | rw [c5b0] | (simp only [i64_w, i32_w]; rw [c5b0]) | skip)
      by_cases c6 : a0_0 = 7
      · rw [if_pos c6] at H
        have c6b0 : (a0_0 == 7) = true := beq_iff_eq.mpr c6
        have c6b1 : (a0_0 != 7) = false := bne_eq_false_iff_eq.mpr c6
        clear c6
        have H' := Aside0.mk H
        clear H
        go_wp2
        go_meet
        case rel => exact ⟨_, ((a0_0 == 7)), (by first | rfl | (simp; done) | (simp [*]; done)), H', ⟨by first | omega | exact Nat.le_refl _⟩, ⟨by (with_reducible repeat (first | refine blk_drewN ?_ _ | refine blk_drew ?_ | refine blk_alloc ?_ _)); exact BK111.out⟩, ⟨by repeat (first | (with_reducible first | exact HB.out | apply below_alloc | apply pw_below_drewN | apply below_drew1 | refine below_set ?_ GE111.out) | exact HB.out)⟩⟩
      · rw [if_neg c6] at H
        have c6b0 : (a0_0 == 7) = false := beq_eq_false_iff_ne.mpr c6
        have c6b1 : (a0_0 != 7) = true := bne_iff_ne.mpr c6
        have H' := Aside0.mk H
        clear H
        go_wp2
        go_meet
        case rel => exact ⟨_, ((a0_0 == 8)), (by first | rfl | (simp; done) | (simp [*]; done)), H', ⟨by first | omega | exact Nat.le_refl _⟩, ⟨by (with_reducible repeat (first | refine blk_drewN ?_ _ | refine blk_drew ?_ | refine blk_alloc ?_ _)); exact BK111.out⟩, ⟨by repeat (first | (with_reducible first | exact HB.out | apply below_alloc | apply pw_below_drewN | apply below_drew1 | refine below_set ?_ GE111.out) | exact HB.out)⟩⟩
  case rest =>
    clear HC2
    try clear p2
    try clear c3
    try clear c5
    try clear c5b0
    try clear c5b1
    try clear c6
    try clear c6b0
    try clear c6b1
    try clear hcz4_0
    try clear hcz4_1
    try clear hcz4_2
    try clear hcz4_3
    try clear hfz4_0
    try clear hfz4_1
    try clear hfz4_2
    try clear hfz4_3
    obtain ⟨kq, x5_1, rfl, HA, HJ1, BK111, HB⟩ := hcut
    cases kq with
    | zero => exact absurd HA.out (by simp [inst_row_high0.j0])
    | succ kj1 =>
      have H := HA.out
      clear HA
      simp only [inst_row_high0.j0] at H
      by_cases c7 : x5_1 = true
      · subst c7
        have H1 : (some (IntKind.u64.wrap ((IntKind.u64.wrap (a0_3)) * 33554432))) = some r := by rw [if_pos rfl] at H; exact H
        clear H
        have H := H1
        clear H1
        obtain rfl := Option.some.inj H
        have hcz8_0 : wc.cell? ⟨gb111, 0, none⟩ = some (.int .i64 a0_0) := (blk_cell BK111.out 0).trans rfl
        have hcz8_1 : wc.cell? ⟨gb111, 1, none⟩ = some (.int .i64 a0_1) := (blk_cell BK111.out 1).trans rfl
        have hcz8_2 : wc.cell? ⟨gb111, 2, none⟩ = some (.int .i64 a0_2) := (blk_cell BK111.out 2).trans rfl
        have hcz8_3 : wc.cell? ⟨gb111, 3, none⟩ = some (.int .i64 a0_3) := (blk_cell BK111.out 3).trans rfl
        have hfz8_0 := blk_frozen BK111.out 0
        have hfz8_1 := blk_frozen BK111.out 1
        have hfz8_2 := blk_frozen BK111.out 2
        have hfz8_3 := blk_frozen BK111.out 3
        go_wp2
        go_ret
        exact ⟨by first | rfl | (simp [errW_none, errW_some] <;> rfl) | (simp [*, errW_none, errW_some] <;> rfl), by repeat (first | (with_reducible first | exact HB.out | apply below_alloc | apply pw_below_drewN | apply below_drew1 | refine below_set ?_ GE111.out) | exact HB.out)⟩
      · replace c7 := Bool.eq_false_iff.mpr c7
        subst c7
        have H1 : (if a0_0 = 10 then (some (IntKind.u64.wrap ((IntKind.u64.wrap (a0_3)) * 1048576))) else (if a0_0 = 11 then (some (IntKind.u64.wrap ((IntKind.u64.wrap (a0_3)) * 134217728))) else (if a0_0 = 12 then (some (IntKind.u64.wrap ((IntKind.u64.wrap (a0_3)) * 134217728))) else (some 0)))) = some r := by rw [if_neg (show ¬ (false = true) by decide)] at H; exact H
        clear H
        have H := H1
        clear H1
        by_cases c9 : a0_0 = 10
        · rw [if_pos c9] at H
          have c9b0 : (a0_0 == 10) = true := beq_iff_eq.mpr c9
          have c9b1 : (a0_0 != 10) = false := bne_eq_false_iff_eq.mpr c9
          clear c9
          obtain rfl := Option.some.inj H
          have hcz10_0 : wc.cell? ⟨gb111, 0, none⟩ = some (.int .i64 a0_0) := (blk_cell BK111.out 0).trans rfl
          have hcz10_1 : wc.cell? ⟨gb111, 1, none⟩ = some (.int .i64 a0_1) := (blk_cell BK111.out 1).trans rfl
          have hcz10_2 : wc.cell? ⟨gb111, 2, none⟩ = some (.int .i64 a0_2) := (blk_cell BK111.out 2).trans rfl
          have hcz10_3 : wc.cell? ⟨gb111, 3, none⟩ = some (.int .i64 a0_3) := (blk_cell BK111.out 3).trans rfl
          have hfz10_0 := blk_frozen BK111.out 0
          have hfz10_1 := blk_frozen BK111.out 1
          have hfz10_2 := blk_frozen BK111.out 2
          have hfz10_3 := blk_frozen BK111.out 3
          go_wp2
          go_ret
          exact ⟨by first | rfl | (simp [errW_none, errW_some] <;> rfl) | (simp [*, errW_none, errW_some] <;> rfl), by repeat (first | (with_reducible first | exact HB.out | apply below_alloc | apply pw_below_drewN | apply below_drew1 | refine below_set ?_ GE111.out) | exact HB.out)⟩
        · rw [if_neg c9] at H
          have c9b0 : (a0_0 == 10) = false := beq_eq_false_iff_ne.mpr c9
          have c9b1 : (a0_0 != 10) = true := bne_iff_ne.mpr c9
          by_cases c11 : a0_0 = 11
          · rw [if_pos c11] at H
            have c11b0 : (a0_0 == 11) = true := beq_iff_eq.mpr c11
            have c11b1 : (a0_0 != 11) = false := bne_eq_false_iff_eq.mpr c11
            clear c11
            obtain rfl := Option.some.inj H
            have hcz12_0 : wc.cell? ⟨gb111, 0, none⟩ = some (.int .i64 a0_0) := (blk_cell BK111.out 0).trans rfl
            have hcz12_1 : wc.cell? ⟨gb111, 1, none⟩ = some (.int .i64 a0_1) := (blk_cell BK111.out 1).trans rfl
            have hcz12_2 : wc.cell? ⟨gb111, 2, none⟩ = some (.int .i64 a0_2) := (blk_cell BK111.out 2).trans rfl
            have hcz12_3 : wc.cell? ⟨gb111, 3, none⟩ = some (.int .i64 a0_3) := (blk_cell BK111.out 3).trans rfl
            have hfz12_0 := blk_frozen BK111.out 0
            have hfz12_1 := blk_frozen BK111.out 1
            have hfz12_2 := blk_frozen BK111.out 2
            have hfz12_3 := blk_frozen BK111.out 3
            go_wp2
            go_ret
            exact ⟨by first | rfl | (simp [errW_none, errW_some] <;> rfl) | (simp [*, errW_none, errW_some] <;> rfl), by repeat (first | (with_reducible first | exact HB.out | apply below_alloc | apply pw_below_drewN | apply below_drew1 | refine below_set ?_ GE111.out) | exact HB.out)⟩
          · rw [if_neg c11] at H
            have c11b0 : (a0_0 == 11) = false := beq_eq_false_iff_ne.mpr c11
            have c11b1 : (a0_0 != 11) = true := bne_iff_ne.mpr c11
            by_cases c13 : a0_0 = 12
            · rw [if_pos c13] at H
              have c13b0 : (a0_0 == 12) = true := beq_iff_eq.mpr c13
              have c13b1 : (a0_0 != 12) = false := bne_eq_false_iff_eq.mpr c13
              clear c13
              obtain rfl := Option.some.inj H
              have hcz14_0 : wc.cell? ⟨gb111, 0, none⟩ = some (.int .i64 a0_0) := (blk_cell BK111.out 0).trans rfl
              have hcz14_1 : wc.cell? ⟨gb111, 1, none⟩ = some (.int .i64 a0_1) := (blk_cell BK111.out 1).trans rfl
              have hcz14_2 : wc.cell? ⟨gb111, 2, none⟩ = some (.int .i64 a0_2) := (blk_cell BK111.out 2).trans rfl
              have hcz14_3 : wc.cell? ⟨gb111, 3, none⟩ = some (.int .i64 a0_3) := (blk_cell BK111.out 3).trans rfl
              have hfz14_0 := blk_frozen BK111.out 0
              have hfz14_1 := blk_frozen BK111.out 1
              have hfz14_2 := blk_frozen BK111.out 2
              have hfz14_3 := blk_frozen BK111.out 3
              go_wp2
              go_ret
              exact ⟨by first | rfl | (simp [errW_none, errW_some] <;> rfl) | (simp [*, errW_none, errW_some] <;> rfl), by repeat (first | (with_reducible first | exact HB.out | apply below_alloc | apply pw_below_drewN | apply below_drew1 | refine below_set ?_ GE111.out) | exact HB.out)⟩
            · rw [if_neg c13] at H
              have c13b0 : (a0_0 == 12) = false := beq_eq_false_iff_ne.mpr c13
              have c13b1 : (a0_0 != 12) = true := bne_iff_ne.mpr c13
              obtain rfl := Option.some.inj H
              go_wp2
              go_ret
              exact ⟨by first | rfl | (simp [errW_none, errW_some] <;> rfl) | (simp [*, errW_none, errW_some] <;> rfl), by repeat (first | (with_reducible first | exact HB.out | apply below_alloc | apply pw_below_drewN | apply below_drew1 | refine below_set ?_ GE111.out) | exact HB.out)⟩
def inst_row_high.f (a0_0 : Int) (a0_1 : Int) (a0_2 : Int) (a0_3 : Int) : Option (Int) := if 0 ≤ a0_3 ∧ a0_3 < 128 ∧ ((a0_0 = 11 ∨ a0_0 = 12) → a0_3 < 32) then some (highOf a0_0 a0_3) else none
theorem inst_row_high.spec (a0_0 a0_1 a0_2 a0_3 r : Int) (h : inst_row_high.f a0_0 a0_1 a0_2 a0_3 = some r) : ∃ k, inst_row_high0.f k a0_0 a0_1 a0_2 a0_3 = some r := by
  unfold inst_row_high.f at h
  by_cases hr : 0 ≤ a0_3 ∧ a0_3 < 128 ∧ ((a0_0 = 11 ∨ a0_0 = 12) → a0_3 < 32)
  · rw [if_pos hr] at h
    obtain rfl := Option.some.inj h
    refine ⟨1, ?_⟩
    unfold inst_row_high0.f
    have e1 : IntKind.u64.wrap a0_3 = a0_3 := by rw [u64w]; omega
    have e2 : IntKind.u64.wrap (a0_3 * 33554432) = a0_3 * 33554432 := by rw [u64w]; omega
    have e3 : IntKind.u64.wrap (a0_3 * 1048576) = a0_3 * 1048576 := by rw [u64w]; omega
    have e4 : IntKind.u64.wrap (a0_3 * 134217728) = a0_3 * 134217728 := by rw [u64w]; omega
    simp only [inst_row_high0.j0, highOf, e1, e2, e3, e4, beq_iff_eq]
    by_cases h1 : a0_0 = 6
    · simp [h1]
    by_cases h2 : a0_0 = 7
    · simp [h2]
    by_cases h3 : a0_0 = 8
    · simp [h3]
    by_cases h4 : a0_0 = 10
    · simp [h4]
    by_cases h5 : a0_0 = 11
    · simp [h5]
    by_cases h6 : a0_0 = 12
    · simp [h6]
    simp [h1, h2, h3, h4, h5, h6]
  · rw [if_neg hr] at h; exact absurd h (by simp)

theorem inst_row_high.calls (a0_0 : Int) (a0_1 : Int) (a0_2 : Int) (a0_3 : Int) (r : Int) (w : World) (h : inst_row_high.f a0_0 a0_1 a0_2 a0_3 = some r) :
    Calls Try.prog 35 #[.agg #[.int .i64 a0_0, .int .i64 a0_1, .int .i64 a0_2, .int .i64 a0_3]] w fun e w' => e = .returned (.int .u64 r) ∧ Below w.heap.size w w' := by
  obtain ⟨k, hk⟩ := inst_row_high.spec a0_0 a0_1 a0_2 a0_3 r h
  exact inst_row_high0.calls k a0_0 a0_1 a0_2 a0_3 r w hk

/-! ### inst_places: function 36 -/
def inst_places.f (a0 : Int) : Option ((List (S80))) := if a0 = 1 then (some (([(⟨12, 20, 12⟩ : S80)] : List (S80)))) else (if a0 = 2 then (some (([(⟨20, 1, 31⟩ : S80), (⟨1, 10, 21⟩ : S80), (⟨11, 1, 20⟩ : S80), (⟨12, 8, 12⟩ : S80)] : List (S80)))) else (if a0 = 3 then (some (([(⟨0, 12, 20⟩ : S80)] : List (S80)))) else (if a0 = 4 then (some (([(⟨12, 1, 31⟩ : S80), (⟨5, 6, 25⟩ : S80), (⟨1, 4, 8⟩ : S80), (⟨11, 1, 7⟩ : S80)] : List (S80)))) else (if a0 = 5 then (some (([(⟨5, 7, 25⟩ : S80), (⟨0, 5, 7⟩ : S80)] : List (S80)))) else (if a0 = 6 then (some (([(⟨0, 6, 20⟩ : S80)] : List (S80)))) else (if a0 = 7 then (some (([(⟨0, 5, 20⟩ : S80)] : List (S80)))) else (if a0 = 9 then (some (([(⟨0, 8, 20⟩ : S80)] : List (S80)))) else (some ([] : List (S80))))))))))
set_option maxHeartbeats 8000000 in
set_option maxRecDepth 100000 in
theorem inst_places.calls (a0 : Int) (r : List (S80)) (w : World) (h : inst_places.f a0 = some r) :
    Calls Try.prog 36 #[.int .i64 a0] w fun e w' => ∃ v0_ : Value, e = .returned (v0_) ∧ Kd.R k80 80 w' w.heap.size (fun _ => True) v0_ r ∧ Below w.heap.size w w' := by
  have hu80 := Try.underlying80
  have HB := Aside0.mk (Below.refl w.heap.size w)
  have H : (if a0 = 1 then (some (([(⟨12, 20, 12⟩ : S80)] : List (S80)))) else (if a0 = 2 then (some (([(⟨20, 1, 31⟩ : S80), (⟨1, 10, 21⟩ : S80), (⟨11, 1, 20⟩ : S80), (⟨12, 8, 12⟩ : S80)] : List (S80)))) else (if a0 = 3 then (some (([(⟨0, 12, 20⟩ : S80)] : List (S80)))) else (if a0 = 4 then (some (([(⟨12, 1, 31⟩ : S80), (⟨5, 6, 25⟩ : S80), (⟨1, 4, 8⟩ : S80), (⟨11, 1, 7⟩ : S80)] : List (S80)))) else (if a0 = 5 then (some (([(⟨5, 7, 25⟩ : S80), (⟨0, 5, 7⟩ : S80)] : List (S80)))) else (if a0 = 6 then (some (([(⟨0, 6, 20⟩ : S80)] : List (S80)))) else (if a0 = 7 then (some (([(⟨0, 5, 20⟩ : S80)] : List (S80)))) else (if a0 = 9 then (some (([(⟨0, 8, 20⟩ : S80)] : List (S80)))) else (some ([] : List (S80))))))))))) = some r := h
  clear h
  by_cases c2 : a0 = 1
  · rw [if_pos c2] at H
    have c2b0 : (a0 == 1) = true := beq_iff_eq.mpr c2
    have c2b1 : (a0 != 1) = false := bne_eq_false_iff_eq.mpr c2
    clear c2
    obtain ⟨y112, hy112⟩ : ∃ y_ : List (S80), y_ = (([(⟨12, 20, 12⟩ : S80)] : List (S80))) := ⟨_, rfl⟩
    replace H : (some y112) = some r := by first | (rw [hy112]; with_reducible exact H) | (have H2_ := (Option.bind_some _ _).symm.trans H; rw [hy112]; with_reducible exact H2_) | (have H2_ := (Option.bind_some _ _).symm.trans H; with_reducible exact H2_) | with_reducible exact H | (rw [hy112]; exact H) | exact H
    have Ny112 := Aside0.mk hy112
    clear hy112
    obtain rfl := Option.some.inj H
    go_enter Try.func36, Try.ntmps36
    go_wp2_with (first | ((with_reducible refine gate_dst (N := 7) rfl ?_); refine Kd.R_lit k80 _ 80 ?hg (N := 7) ?hd (xs := ([(⟨12, 20, 12⟩ : S80)] : List (S80))) (inner := [.int .i64 12, .int .i64 20, .int .i64 12]) (ok := fun _ => True) (okp := fun _ => True) ?hr ?hp (fun _ hk => hk) trivial (Below.refl _ _) (Nat.le_refl _) (by simp) ?_; (case hd => rfl); (case hg => rfl); (case hr => first | (go_simp; done) | (go_simp; rfl)); (case hp => exact (Reps.c3 (show Kd.M k80 _ _ _ (⟨12, 20, 12⟩ : S80) [.int .i64 12, .int .i64 20, .int .i64 12] from (k80_mkM _ _ _ (⟨12, 20, 12⟩ : S80) )) (Reps.none _ _))); intro v113 w3 ho4 hb hg_ hnew_; clear hg_ hnew_; (first | rw [← Ny112.out] at ho4 | (simp only [Int.reduceToNat] at ho4; rw [← Ny112.out] at ho4)); have n0_ := Aside0.mk (Kd.R_lower ho4 (below_size (by repeat (first | (with_reducible first | exact HB.out | apply below_alloc | apply pw_below_drewN | apply below_drew1) | exact HB.out)))); have n1_ := Aside0.mk (below_step (by repeat (first | (with_reducible first | exact HB.out | apply below_alloc | apply pw_below_drewN | apply below_drew1) | exact HB.out)) hb); clear HB; have HO114 := n0_; have HB := n1_; clear n0_ n1_; clear hb ho4))
    go_ret
    exact ⟨_, by first | rfl | (simp [errW_none, errW_some] <;> rfl) | (simp [*, errW_none, errW_some] <;> rfl), by (with_reducible repeat (first | apply Kd.R_alloc | apply Kd.R_drewN | apply Kd.R_drew)); exact HO114.out, by repeat (first | (with_reducible first | exact HB.out | apply below_alloc | apply pw_below_drewN | apply below_drew1) | exact HB.out)⟩
  · rw [if_neg c2] at H
    have c2b0 : (a0 == 1) = false := beq_eq_false_iff_ne.mpr c2
    have c2b1 : (a0 != 1) = true := bne_iff_ne.mpr c2
    by_cases c5 : a0 = 2
    · rw [if_pos c5] at H
      have c5b0 : (a0 == 2) = true := beq_iff_eq.mpr c5
      have c5b1 : (a0 != 2) = false := bne_eq_false_iff_eq.mpr c5
      clear c5
      obtain ⟨y115, hy115⟩ : ∃ y_ : List (S80), y_ = (([(⟨20, 1, 31⟩ : S80), (⟨1, 10, 21⟩ : S80), (⟨11, 1, 20⟩ : S80), (⟨12, 8, 12⟩ : S80)] : List (S80))) := ⟨_, rfl⟩
      replace H : (some y115) = some r := by first | (rw [hy115]; with_reducible exact H) | (have H2_ := (Option.bind_some _ _).symm.trans H; rw [hy115]; with_reducible exact H2_) | (have H2_ := (Option.bind_some _ _).symm.trans H; with_reducible exact H2_) | with_reducible exact H | (rw [hy115]; exact H) | exact H
      have Ny115 := Aside0.mk hy115
      clear hy115
      obtain rfl := Option.some.inj H
      go_enter Try.func36, Try.ntmps36
      go_wp2_with (first | ((with_reducible refine gate_dst (N := 14) rfl ?_); refine Kd.R_lit k80 _ 80 ?hg (N := 14) ?hd (xs := ([(⟨20, 1, 31⟩ : S80), (⟨1, 10, 21⟩ : S80), (⟨11, 1, 20⟩ : S80), (⟨12, 8, 12⟩ : S80)] : List (S80))) (inner := [.int .i64 20, .int .i64 1, .int .i64 31, .int .i64 1, .int .i64 10, .int .i64 21, .int .i64 11, .int .i64 1, .int .i64 20, .int .i64 12, .int .i64 8, .int .i64 12]) (ok := fun _ => True) (okp := fun _ => True) ?hr ?hp (fun _ hk => hk) trivial (Below.refl _ _) (Nat.le_refl _) (by simp) ?_; (case hd => rfl); (case hg => rfl); (case hr => first | (go_simp; done) | (go_simp; rfl)); (case hp => exact (Reps.c3 (show Kd.M k80 _ _ _ (⟨20, 1, 31⟩ : S80) [.int .i64 20, .int .i64 1, .int .i64 31] from (k80_mkM _ _ _ (⟨20, 1, 31⟩ : S80) )) (Reps.c3 (show Kd.M k80 _ _ _ (⟨1, 10, 21⟩ : S80) [.int .i64 1, .int .i64 10, .int .i64 21] from (k80_mkM _ _ _ (⟨1, 10, 21⟩ : S80) )) (Reps.c3 (show Kd.M k80 _ _ _ (⟨11, 1, 20⟩ : S80) [.int .i64 11, .int .i64 1, .int .i64 20] from (k80_mkM _ _ _ (⟨11, 1, 20⟩ : S80) )) (Reps.c3 (show Kd.M k80 _ _ _ (⟨12, 8, 12⟩ : S80) [.int .i64 12, .int .i64 8, .int .i64 12] from (k80_mkM _ _ _ (⟨12, 8, 12⟩ : S80) )) (Reps.none _ _)))))); intro v116 w6 ho7 hb hg_ hnew_; clear hg_ hnew_; (first | rw [← Ny115.out] at ho7 | (simp only [Int.reduceToNat] at ho7; rw [← Ny115.out] at ho7)); have n0_ := Aside0.mk (Kd.R_lower ho7 (below_size (by repeat (first | (with_reducible first | exact HB.out | apply below_alloc | apply pw_below_drewN | apply below_drew1) | exact HB.out)))); have n1_ := Aside0.mk (below_step (by repeat (first | (with_reducible first | exact HB.out | apply below_alloc | apply pw_below_drewN | apply below_drew1) | exact HB.out)) hb); clear HB; have HO117 := n0_; have HB := n1_; clear n0_ n1_; clear hb ho7))
      go_ret
      exact ⟨_, by first | rfl | (simp [errW_none, errW_some] <;> rfl) | (simp [*, errW_none, errW_some] <;> rfl), by (with_reducible repeat (first | apply Kd.R_alloc | apply Kd.R_drewN | apply Kd.R_drew)); exact HO117.out, by repeat (first | (with_reducible first | exact HB.out | apply below_alloc | apply pw_below_drewN | apply below_drew1) | exact HB.out)⟩
    · rw [if_neg c5] at H
      have c5b0 : (a0 == 2) = false := beq_eq_false_iff_ne.mpr c5
      have c5b1 : (a0 != 2) = true := bne_iff_ne.mpr c5
      by_cases c8 : a0 = 3
      · rw [if_pos c8] at H
        have c8b0 : (a0 == 3) = true := beq_iff_eq.mpr c8
        have c8b1 : (a0 != 3) = false := bne_eq_false_iff_eq.mpr c8
        clear c8
        obtain ⟨y118, hy118⟩ : ∃ y_ : List (S80), y_ = (([(⟨0, 12, 20⟩ : S80)] : List (S80))) := ⟨_, rfl⟩
        replace H : (some y118) = some r := by first | (rw [hy118]; with_reducible exact H) | (have H2_ := (Option.bind_some _ _).symm.trans H; rw [hy118]; with_reducible exact H2_) | (have H2_ := (Option.bind_some _ _).symm.trans H; with_reducible exact H2_) | with_reducible exact H | (rw [hy118]; exact H) | exact H
        have Ny118 := Aside0.mk hy118
        clear hy118
        obtain rfl := Option.some.inj H
        go_enter Try.func36, Try.ntmps36
        go_wp2_with (first | ((with_reducible refine gate_dst (N := 18) rfl ?_); refine Kd.R_lit k80 _ 80 ?hg (N := 18) ?hd (xs := ([(⟨0, 12, 20⟩ : S80)] : List (S80))) (inner := [.int .i64 0, .int .i64 12, .int .i64 20]) (ok := fun _ => True) (okp := fun _ => True) ?hr ?hp (fun _ hk => hk) trivial (Below.refl _ _) (Nat.le_refl _) (by simp) ?_; (case hd => rfl); (case hg => rfl); (case hr => first | (go_simp; done) | (go_simp; rfl)); (case hp => exact (Reps.c3 (show Kd.M k80 _ _ _ (⟨0, 12, 20⟩ : S80) [.int .i64 0, .int .i64 12, .int .i64 20] from (k80_mkM _ _ _ (⟨0, 12, 20⟩ : S80) )) (Reps.none _ _))); intro v119 w9 ho10 hb hg_ hnew_; clear hg_ hnew_; (first | rw [← Ny118.out] at ho10 | (simp only [Int.reduceToNat] at ho10; rw [← Ny118.out] at ho10)); have n0_ := Aside0.mk (Kd.R_lower ho10 (below_size (by repeat (first | (with_reducible first | exact HB.out | apply below_alloc | apply pw_below_drewN | apply below_drew1) | exact HB.out)))); have n1_ := Aside0.mk (below_step (by repeat (first | (with_reducible first | exact HB.out | apply below_alloc | apply pw_below_drewN | apply below_drew1) | exact HB.out)) hb); clear HB; have HO120 := n0_; have HB := n1_; clear n0_ n1_; clear hb ho10))
        go_ret
        exact ⟨_, by first | rfl | (simp [errW_none, errW_some] <;> rfl) | (simp [*, errW_none, errW_some] <;> rfl), by (with_reducible repeat (first | apply Kd.R_alloc | apply Kd.R_drewN | apply Kd.R_drew)); exact HO120.out, by repeat (first | (with_reducible first | exact HB.out | apply below_alloc | apply pw_below_drewN | apply below_drew1) | exact HB.out)⟩
      · rw [if_neg c8] at H
        have c8b0 : (a0 == 3) = false := beq_eq_false_iff_ne.mpr c8
        have c8b1 : (a0 != 3) = true := bne_iff_ne.mpr c8
        by_cases c11 : a0 = 4
        · rw [if_pos c11] at H
          have c11b0 : (a0 == 4) = true := beq_iff_eq.mpr c11
          have c11b1 : (a0 != 4) = false := bne_eq_false_iff_eq.mpr c11
          clear c11
          obtain ⟨y121, hy121⟩ : ∃ y_ : List (S80), y_ = (([(⟨12, 1, 31⟩ : S80), (⟨5, 6, 25⟩ : S80), (⟨1, 4, 8⟩ : S80), (⟨11, 1, 7⟩ : S80)] : List (S80))) := ⟨_, rfl⟩
          replace H : (some y121) = some r := by first | (rw [hy121]; with_reducible exact H) | (have H2_ := (Option.bind_some _ _).symm.trans H; rw [hy121]; with_reducible exact H2_) | (have H2_ := (Option.bind_some _ _).symm.trans H; with_reducible exact H2_) | with_reducible exact H | (rw [hy121]; exact H) | exact H
          have Ny121 := Aside0.mk hy121
          clear hy121
          obtain rfl := Option.some.inj H
          go_enter Try.func36, Try.ntmps36
          go_wp2_with (first | ((with_reducible refine gate_dst (N := 25) rfl ?_); refine Kd.R_lit k80 _ 80 ?hg (N := 25) ?hd (xs := ([(⟨12, 1, 31⟩ : S80), (⟨5, 6, 25⟩ : S80), (⟨1, 4, 8⟩ : S80), (⟨11, 1, 7⟩ : S80)] : List (S80))) (inner := [.int .i64 12, .int .i64 1, .int .i64 31, .int .i64 5, .int .i64 6, .int .i64 25, .int .i64 1, .int .i64 4, .int .i64 8, .int .i64 11, .int .i64 1, .int .i64 7]) (ok := fun _ => True) (okp := fun _ => True) ?hr ?hp (fun _ hk => hk) trivial (Below.refl _ _) (Nat.le_refl _) (by simp) ?_; (case hd => rfl); (case hg => rfl); (case hr => first | (go_simp; done) | (go_simp; rfl)); (case hp => exact (Reps.c3 (show Kd.M k80 _ _ _ (⟨12, 1, 31⟩ : S80) [.int .i64 12, .int .i64 1, .int .i64 31] from (k80_mkM _ _ _ (⟨12, 1, 31⟩ : S80) )) (Reps.c3 (show Kd.M k80 _ _ _ (⟨5, 6, 25⟩ : S80) [.int .i64 5, .int .i64 6, .int .i64 25] from (k80_mkM _ _ _ (⟨5, 6, 25⟩ : S80) )) (Reps.c3 (show Kd.M k80 _ _ _ (⟨1, 4, 8⟩ : S80) [.int .i64 1, .int .i64 4, .int .i64 8] from (k80_mkM _ _ _ (⟨1, 4, 8⟩ : S80) )) (Reps.c3 (show Kd.M k80 _ _ _ (⟨11, 1, 7⟩ : S80) [.int .i64 11, .int .i64 1, .int .i64 7] from (k80_mkM _ _ _ (⟨11, 1, 7⟩ : S80) )) (Reps.none _ _)))))); intro v122 w12 ho13 hb hg_ hnew_; clear hg_ hnew_; (first | rw [← Ny121.out] at ho13 | (simp only [Int.reduceToNat] at ho13; rw [← Ny121.out] at ho13)); have n0_ := Aside0.mk (Kd.R_lower ho13 (below_size (by repeat (first | (with_reducible first | exact HB.out | apply below_alloc | apply pw_below_drewN | apply below_drew1) | exact HB.out)))); have n1_ := Aside0.mk (below_step (by repeat (first | (with_reducible first | exact HB.out | apply below_alloc | apply pw_below_drewN | apply below_drew1) | exact HB.out)) hb); clear HB; have HO123 := n0_; have HB := n1_; clear n0_ n1_; clear hb ho13))
          go_ret
          exact ⟨_, by first | rfl | (simp [errW_none, errW_some] <;> rfl) | (simp [*, errW_none, errW_some] <;> rfl), by (with_reducible repeat (first | apply Kd.R_alloc | apply Kd.R_drewN | apply Kd.R_drew)); exact HO123.out, by repeat (first | (with_reducible first | exact HB.out | apply below_alloc | apply pw_below_drewN | apply below_drew1) | exact HB.out)⟩
        · rw [if_neg c11] at H
          have c11b0 : (a0 == 4) = false := beq_eq_false_iff_ne.mpr c11
          have c11b1 : (a0 != 4) = true := bne_iff_ne.mpr c11
          by_cases c14 : a0 = 5
          · rw [if_pos c14] at H
            have c14b0 : (a0 == 5) = true := beq_iff_eq.mpr c14
            have c14b1 : (a0 != 5) = false := bne_eq_false_iff_eq.mpr c14
            clear c14
            obtain ⟨y124, hy124⟩ : ∃ y_ : List (S80), y_ = (([(⟨5, 7, 25⟩ : S80), (⟨0, 5, 7⟩ : S80)] : List (S80))) := ⟨_, rfl⟩
            replace H : (some y124) = some r := by first | (rw [hy124]; with_reducible exact H) | (have H2_ := (Option.bind_some _ _).symm.trans H; rw [hy124]; with_reducible exact H2_) | (have H2_ := (Option.bind_some _ _).symm.trans H; with_reducible exact H2_) | with_reducible exact H | (rw [hy124]; exact H) | exact H
            have Ny124 := Aside0.mk hy124
            clear hy124
            obtain rfl := Option.some.inj H
            go_enter Try.func36, Try.ntmps36
            go_wp2_with (first | ((with_reducible refine gate_dst (N := 30) rfl ?_); refine Kd.R_lit k80 _ 80 ?hg (N := 30) ?hd (xs := ([(⟨5, 7, 25⟩ : S80), (⟨0, 5, 7⟩ : S80)] : List (S80))) (inner := [.int .i64 5, .int .i64 7, .int .i64 25, .int .i64 0, .int .i64 5, .int .i64 7]) (ok := fun _ => True) (okp := fun _ => True) ?hr ?hp (fun _ hk => hk) trivial (Below.refl _ _) (Nat.le_refl _) (by simp) ?_; (case hd => rfl); (case hg => rfl); (case hr => first | (go_simp; done) | (go_simp; rfl)); (case hp => exact (Reps.c3 (show Kd.M k80 _ _ _ (⟨5, 7, 25⟩ : S80) [.int .i64 5, .int .i64 7, .int .i64 25] from (k80_mkM _ _ _ (⟨5, 7, 25⟩ : S80) )) (Reps.c3 (show Kd.M k80 _ _ _ (⟨0, 5, 7⟩ : S80) [.int .i64 0, .int .i64 5, .int .i64 7] from (k80_mkM _ _ _ (⟨0, 5, 7⟩ : S80) )) (Reps.none _ _)))); intro v125 w15 ho16 hb hg_ hnew_; clear hg_ hnew_; (first | rw [← Ny124.out] at ho16 | (simp only [Int.reduceToNat] at ho16; rw [← Ny124.out] at ho16)); have n0_ := Aside0.mk (Kd.R_lower ho16 (below_size (by repeat (first | (with_reducible first | exact HB.out | apply below_alloc | apply pw_below_drewN | apply below_drew1) | exact HB.out)))); have n1_ := Aside0.mk (below_step (by repeat (first | (with_reducible first | exact HB.out | apply below_alloc | apply pw_below_drewN | apply below_drew1) | exact HB.out)) hb); clear HB; have HO126 := n0_; have HB := n1_; clear n0_ n1_; clear hb ho16))
            go_ret
            exact ⟨_, by first | rfl | (simp [errW_none, errW_some] <;> rfl) | (simp [*, errW_none, errW_some] <;> rfl), by (with_reducible repeat (first | apply Kd.R_alloc | apply Kd.R_drewN | apply Kd.R_drew)); exact HO126.out, by repeat (first | (with_reducible first | exact HB.out | apply below_alloc | apply pw_below_drewN | apply below_drew1) | exact HB.out)⟩
          · rw [if_neg c14] at H
            have c14b0 : (a0 == 5) = false := beq_eq_false_iff_ne.mpr c14
            have c14b1 : (a0 != 5) = true := bne_iff_ne.mpr c14
            by_cases c17 : a0 = 6
            · rw [if_pos c17] at H
              have c17b0 : (a0 == 6) = true := beq_iff_eq.mpr c17
              have c17b1 : (a0 != 6) = false := bne_eq_false_iff_eq.mpr c17
              clear c17
              obtain ⟨y127, hy127⟩ : ∃ y_ : List (S80), y_ = (([(⟨0, 6, 20⟩ : S80)] : List (S80))) := ⟨_, rfl⟩
              replace H : (some y127) = some r := by first | (rw [hy127]; with_reducible exact H) | (have H2_ := (Option.bind_some _ _).symm.trans H; rw [hy127]; with_reducible exact H2_) | (have H2_ := (Option.bind_some _ _).symm.trans H; with_reducible exact H2_) | with_reducible exact H | (rw [hy127]; exact H) | exact H
              have Ny127 := Aside0.mk hy127
              clear hy127
              obtain rfl := Option.some.inj H
              go_enter Try.func36, Try.ntmps36
              go_wp2_with (first | ((with_reducible refine gate_dst (N := 34) rfl ?_); refine Kd.R_lit k80 _ 80 ?hg (N := 34) ?hd (xs := ([(⟨0, 6, 20⟩ : S80)] : List (S80))) (inner := [.int .i64 0, .int .i64 6, .int .i64 20]) (ok := fun _ => True) (okp := fun _ => True) ?hr ?hp (fun _ hk => hk) trivial (Below.refl _ _) (Nat.le_refl _) (by simp) ?_; (case hd => rfl); (case hg => rfl); (case hr => first | (go_simp; done) | (go_simp; rfl)); (case hp => exact (Reps.c3 (show Kd.M k80 _ _ _ (⟨0, 6, 20⟩ : S80) [.int .i64 0, .int .i64 6, .int .i64 20] from (k80_mkM _ _ _ (⟨0, 6, 20⟩ : S80) )) (Reps.none _ _))); intro v128 w18 ho19 hb hg_ hnew_; clear hg_ hnew_; (first | rw [← Ny127.out] at ho19 | (simp only [Int.reduceToNat] at ho19; rw [← Ny127.out] at ho19)); have n0_ := Aside0.mk (Kd.R_lower ho19 (below_size (by repeat (first | (with_reducible first | exact HB.out | apply below_alloc | apply pw_below_drewN | apply below_drew1) | exact HB.out)))); have n1_ := Aside0.mk (below_step (by repeat (first | (with_reducible first | exact HB.out | apply below_alloc | apply pw_below_drewN | apply below_drew1) | exact HB.out)) hb); clear HB; have HO129 := n0_; have HB := n1_; clear n0_ n1_; clear hb ho19))
              go_ret
              exact ⟨_, by first | rfl | (simp [errW_none, errW_some] <;> rfl) | (simp [*, errW_none, errW_some] <;> rfl), by (with_reducible repeat (first | apply Kd.R_alloc | apply Kd.R_drewN | apply Kd.R_drew)); exact HO129.out, by repeat (first | (with_reducible first | exact HB.out | apply below_alloc | apply pw_below_drewN | apply below_drew1) | exact HB.out)⟩
            · rw [if_neg c17] at H
              have c17b0 : (a0 == 6) = false := beq_eq_false_iff_ne.mpr c17
              have c17b1 : (a0 != 6) = true := bne_iff_ne.mpr c17
              by_cases c20 : a0 = 7
              · rw [if_pos c20] at H
                have c20b0 : (a0 == 7) = true := beq_iff_eq.mpr c20
                have c20b1 : (a0 != 7) = false := bne_eq_false_iff_eq.mpr c20
                clear c20
                obtain ⟨y130, hy130⟩ : ∃ y_ : List (S80), y_ = (([(⟨0, 5, 20⟩ : S80)] : List (S80))) := ⟨_, rfl⟩
                replace H : (some y130) = some r := by first | (rw [hy130]; with_reducible exact H) | (have H2_ := (Option.bind_some _ _).symm.trans H; rw [hy130]; with_reducible exact H2_) | (have H2_ := (Option.bind_some _ _).symm.trans H; with_reducible exact H2_) | with_reducible exact H | (rw [hy130]; exact H) | exact H
                have Ny130 := Aside0.mk hy130
                clear hy130
                obtain rfl := Option.some.inj H
                go_enter Try.func36, Try.ntmps36
                go_wp2_with (first | ((with_reducible refine gate_dst (N := 38) rfl ?_); refine Kd.R_lit k80 _ 80 ?hg (N := 38) ?hd (xs := ([(⟨0, 5, 20⟩ : S80)] : List (S80))) (inner := [.int .i64 0, .int .i64 5, .int .i64 20]) (ok := fun _ => True) (okp := fun _ => True) ?hr ?hp (fun _ hk => hk) trivial (Below.refl _ _) (Nat.le_refl _) (by simp) ?_; (case hd => rfl); (case hg => rfl); (case hr => first | (go_simp; done) | (go_simp; rfl)); (case hp => exact (Reps.c3 (show Kd.M k80 _ _ _ (⟨0, 5, 20⟩ : S80) [.int .i64 0, .int .i64 5, .int .i64 20] from (k80_mkM _ _ _ (⟨0, 5, 20⟩ : S80) )) (Reps.none _ _))); intro v131 w21 ho22 hb hg_ hnew_; clear hg_ hnew_; (first | rw [← Ny130.out] at ho22 | (simp only [Int.reduceToNat] at ho22; rw [← Ny130.out] at ho22)); have n0_ := Aside0.mk (Kd.R_lower ho22 (below_size (by repeat (first | (with_reducible first | exact HB.out | apply below_alloc | apply pw_below_drewN | apply below_drew1) | exact HB.out)))); have n1_ := Aside0.mk (below_step (by repeat (first | (with_reducible first | exact HB.out | apply below_alloc | apply pw_below_drewN | apply below_drew1) | exact HB.out)) hb); clear HB; have HO132 := n0_; have HB := n1_; clear n0_ n1_; clear hb ho22))
                go_ret
                exact ⟨_, by first | rfl | (simp [errW_none, errW_some] <;> rfl) | (simp [*, errW_none, errW_some] <;> rfl), by (with_reducible repeat (first | apply Kd.R_alloc | apply Kd.R_drewN | apply Kd.R_drew)); exact HO132.out, by repeat (first | (with_reducible first | exact HB.out | apply below_alloc | apply pw_below_drewN | apply below_drew1) | exact HB.out)⟩
              · rw [if_neg c20] at H
                have c20b0 : (a0 == 7) = false := beq_eq_false_iff_ne.mpr c20
                have c20b1 : (a0 != 7) = true := bne_iff_ne.mpr c20
                by_cases c23 : a0 = 9
                · rw [if_pos c23] at H
                  have c23b0 : (a0 == 9) = true := beq_iff_eq.mpr c23
                  have c23b1 : (a0 != 9) = false := bne_eq_false_iff_eq.mpr c23
                  clear c23
                  obtain ⟨y133, hy133⟩ : ∃ y_ : List (S80), y_ = (([(⟨0, 8, 20⟩ : S80)] : List (S80))) := ⟨_, rfl⟩
                  replace H : (some y133) = some r := by first | (rw [hy133]; with_reducible exact H) | (have H2_ := (Option.bind_some _ _).symm.trans H; rw [hy133]; with_reducible exact H2_) | (have H2_ := (Option.bind_some _ _).symm.trans H; with_reducible exact H2_) | with_reducible exact H | (rw [hy133]; exact H) | exact H
                  have Ny133 := Aside0.mk hy133
                  clear hy133
                  obtain rfl := Option.some.inj H
                  go_enter Try.func36, Try.ntmps36
                  go_wp2_with (first | ((with_reducible refine gate_dst (N := 42) rfl ?_); refine Kd.R_lit k80 _ 80 ?hg (N := 42) ?hd (xs := ([(⟨0, 8, 20⟩ : S80)] : List (S80))) (inner := [.int .i64 0, .int .i64 8, .int .i64 20]) (ok := fun _ => True) (okp := fun _ => True) ?hr ?hp (fun _ hk => hk) trivial (Below.refl _ _) (Nat.le_refl _) (by simp) ?_; (case hd => rfl); (case hg => rfl); (case hr => first | (go_simp; done) | (go_simp; rfl)); (case hp => exact (Reps.c3 (show Kd.M k80 _ _ _ (⟨0, 8, 20⟩ : S80) [.int .i64 0, .int .i64 8, .int .i64 20] from (k80_mkM _ _ _ (⟨0, 8, 20⟩ : S80) )) (Reps.none _ _))); intro v134 w24 ho25 hb hg_ hnew_; clear hg_ hnew_; (first | rw [← Ny133.out] at ho25 | (simp only [Int.reduceToNat] at ho25; rw [← Ny133.out] at ho25)); have n0_ := Aside0.mk (Kd.R_lower ho25 (below_size (by repeat (first | (with_reducible first | exact HB.out | apply below_alloc | apply pw_below_drewN | apply below_drew1) | exact HB.out)))); have n1_ := Aside0.mk (below_step (by repeat (first | (with_reducible first | exact HB.out | apply below_alloc | apply pw_below_drewN | apply below_drew1) | exact HB.out)) hb); clear HB; have HO135 := n0_; have HB := n1_; clear n0_ n1_; clear hb ho25))
                  go_ret
                  exact ⟨_, by first | rfl | (simp [errW_none, errW_some] <;> rfl) | (simp [*, errW_none, errW_some] <;> rfl), by (with_reducible repeat (first | apply Kd.R_alloc | apply Kd.R_drewN | apply Kd.R_drew)); exact HO135.out, by repeat (first | (with_reducible first | exact HB.out | apply below_alloc | apply pw_below_drewN | apply below_drew1) | exact HB.out)⟩
                · rw [if_neg c23] at H
                  have c23b0 : (a0 == 9) = false := beq_eq_false_iff_ne.mpr c23
                  have c23b1 : (a0 != 9) = true := bne_iff_ne.mpr c23
                  obtain rfl := Option.some.inj H
                  go_enter Try.func36, Try.ntmps36
                  go_wp2
                  go_ret
                  exact ⟨_, by first | rfl | (simp [errW_none, errW_some] <;> rfl) | (simp [*, errW_none, errW_some] <;> rfl), by first | exact Kd.R_nil _ _ _ _ _ | exact Kd.N_nil _ _ _ _ _ | exact Kd.V_nil _ _ _ _ _ | exact Kd.Q_nil _ _ _ _ _ | exact Kd.S_nil _ _ _ _ _, by repeat (first | (with_reducible first | exact HB.out | apply below_alloc | apply pw_below_drewN | apply below_drew1) | exact HB.out)⟩

/-! ### bits_is: function 54 -/
def bits_is.f (a0 : Int) (a1 : Int) : Option (Bool) := if a0 ≥ 0 then (if a0 < 64 then (some (decide (a1 ≥ 1))) else (some false)) else (some false)
set_option maxHeartbeats 8000000 in
set_option maxRecDepth 100000 in
theorem bits_is.calls (a0 : Int) (a1 : Int) (r : Bool) (w : World) (h : bits_is.f a0 a1 = some r) :
    Calls Try.prog 54 #[.int .i64 a0, .int .i64 a1] w fun e w' => e = .returned (.bool r) ∧ Drawn0 w w' := by
  have H : (if a0 ≥ 0 then (if a0 < 64 then (some (decide (a1 ≥ 1))) else (some false)) else (some false)) = some r := h
  clear h
  by_cases c3 : a0 ≥ 0
  · rw [if_pos c3] at H
    have c3b0 : decide (0 ≤ a0) = true := decide_eq_true c3
    clear c3
    by_cases c4 : a0 < 64
    · rw [if_pos c4] at H
      have c4b0 : decide (a0 < 64) = true := decide_eq_true c4
      clear c4
      obtain rfl := Option.some.inj H
      go_enter Try.func54, Try.ntmps54
      go_wp2
      go_ret
      exact ⟨by first | rfl | (simp; done) | (simp [*]; done), by repeat (first | exact Drawn0.refl _ | apply Drawn0.step)⟩
    · rw [if_neg c4] at H
      have c4b0 : decide (a0 < 64) = false := decide_eq_false c4
      clear c4
      obtain rfl := Option.some.inj H
      go_enter Try.func54, Try.ntmps54
      go_wp2
      go_ret
      exact ⟨by first | rfl | (simp; done) | (simp [*]; done), by repeat (first | exact Drawn0.refl _ | apply Drawn0.step)⟩
  · rw [if_neg c3] at H
    have c3b0 : decide (0 ≤ a0) = false := decide_eq_false c3
    clear c3
    obtain rfl := Option.some.inj H
    go_enter Try.func54, Try.ntmps54
    go_wp2
    go_ret
    exact ⟨by first | rfl | (simp; done) | (simp [*]; done), by repeat (first | exact Drawn0.refl _ | apply Drawn0.step)⟩

/-! ### bits_mask0: function 55 -/
def bits_mask0.f (a0 : Int) : Option (Int) := if a0 ≥ 64 then (some 18446744073709551615) else (if 0 ≤ a0 then (some (IntKind.u64.wrap ((shl .u64 1 a0) - 1))) else (none))
set_option maxHeartbeats 8000000 in
set_option maxRecDepth 100000 in
theorem bits_mask0.calls (a0 : Int) (r : Int) (w : World) (h : bits_mask0.f a0 = some r) :
    Calls Try.prog 55 #[.int .i64 a0] w fun e w' => e = .returned (.int .u64 r) ∧ Drawn0 w w' := by
  have H : (if a0 ≥ 64 then (some 18446744073709551615) else (if 0 ≤ a0 then (some (IntKind.u64.wrap ((shl .u64 1 a0) - 1))) else (none))) = some r := h
  clear h
  by_cases c2 : a0 ≥ 64
  · rw [if_pos c2] at H
    have c2b0 : decide (64 ≤ a0) = true := decide_eq_true c2
    clear c2
    obtain rfl := Option.some.inj H
    go_enter Try.func55, Try.ntmps55
    go_wp2
    go_ret
    exact ⟨by first | rfl | (simp; done) | (simp [*]; done), by repeat (first | exact Drawn0.refl _ | apply Drawn0.step)⟩
  · rw [if_neg c2] at H
    have c2b0 : decide (64 ≤ a0) = false := decide_eq_false c2
    clear c2
    by_cases c3 : 0 ≤ a0
    · rw [if_pos c3] at H
      have c3b0 := eq_true c3
      have c3b1 : decide (0 ≤ a0) = true := decide_eq_true c3
      clear c3
      obtain ⟨ji4, hji4⟩ : ∃ j_ : Int, (shl .u64 1 a0) = j_ := ⟨_, rfl⟩
      replace H : (some (IntKind.u64.wrap ((ji4) - 1))) = some r := by first | (rw [hji4] at H; exact H) | (simp only [hji4] at H ⊢; exact H)
      have hji4_ : (IntKind.u64.wrap (1 * 2 ^ min a0.toNat 64)) = ji4 := hji4
      have hji4z : a0 ≤ 64 → (IntKind.u64.wrap (1 * 2 ^ a0.toNat)) = ji4 := shl_small hji4
      have hji4u : (IntKind.u64.wrap (2 ^ min a0.toNat 64)) = ji4 := by have h_ := hji4_; rw [Int.one_mul] at h_; exact h_
      have hji4v : a0 ≤ 64 → (IntKind.u64.wrap (2 ^ a0.toNat)) = ji4 := fun hle_ => by have h_ := hji4z hle_; rw [Int.one_mul] at h_; exact h_
      obtain rfl := Option.some.inj H
      go_enter Try.func55, Try.ntmps55
      go_wp2
      go_ret
      exact ⟨by first | rfl | (simp; done) | (simp only [← hji4] <;> (first | rfl | simp)) | (simp [*]; done), by repeat (first | exact Drawn0.refl _ | apply Drawn0.step)⟩
    · rw [if_neg c3] at H
      exact absurd H (by simp)
def bits_mask.f (a0 : Int) : Option (Int) := if 1 ≤ a0 then some (2 ^ (min a0 64).toNat - 1) else none
theorem bits_mask.spec (a0 r : Int) (h : bits_mask.f a0 = some r) : bits_mask0.f a0 = some r := by
  unfold bits_mask.f at h
  by_cases hu : 1 ≤ a0
  · rw [if_pos hu] at h
    obtain rfl := Option.some.inj h
    unfold bits_mask0.f
    by_cases h2 : a0 ≥ 64
    · rw [if_pos h2, show (min a0 64).toNat = 64 from by omega]; rfl
    · have e : shl .u64 1 a0 = 2 ^ a0.toNat := by
        unfold shl
        rw [Nat.min_eq_left (show a0.toNat ≤ IntKind.u64.bits by show _ ≤ 64; omega), Int.one_mul, ipow]
        exact wrap_nat _ (Nat.pow_lt_pow_right (by decide) (by omega))
      have hp := ipos a0.toNat
      have hq : (2 : Int) ^ a0.toNat ≤ 2 ^ 63 := ipow_le _ _ (by omega)
      rw [if_neg h2, if_pos (by omega), e, show (min a0 64).toNat = a0.toNat from by omega, U64.wrap_eq (by unfold U64; omega)]
  · rw [if_neg hu] at h; exact absurd h (by simp)


theorem bits_mask.calls (a0 : Int) (r : Int) (w : World) (h : bits_mask.f a0 = some r) :
    Calls Try.prog 55 #[.int .i64 a0] w fun e w' => e = .returned (.int .u64 r) ∧ Drawn0 w w' := by
  have hk := bits_mask.spec a0 r h
  exact bits_mask0.calls a0 r w hk

/-! ### bits_Place0: function 37 -/
def bits_Place0.f (a0 : Int) (a1 : Int) (a2 : Int) (a3 : Int) : Option (Int) := (bits_is.f a1 a2).bind fun t136 => (if t136 = true then ((bits_mask.f a2).bind fun t137 => (if 0 ≤ a1 then (some (Go.bits .or .u64 (Go.bits .andNot .u64 a0 (shl .u64 t137 a1)) (Go.bits .and .u64 (shl .u64 a3 a1) (shl .u64 t137 a1)))) else (none))) else (some a0))
set_option maxHeartbeats 8000000 in
set_option maxRecDepth 100000 in
theorem bits_Place0.calls (a0 : Int) (a1 : Int) (a2 : Int) (a3 : Int) (r : Int) (w : World) (h : bits_Place0.f a0 a1 a2 a3 = some r) :
    Calls Try.prog 37 #[.int .u64 a0, .int .i64 a1, .int .i64 a2, .int .u64 a3] w fun e w' => e = .returned (.int .u64 r) ∧ Drawn0 w w' := by
  have H : ((bits_is.f a1 a2).bind fun t136 => (if t136 = true then ((bits_mask.f a2).bind fun t137 => (if 0 ≤ a1 then (some (Go.bits .or .u64 (Go.bits .andNot .u64 a0 (shl .u64 t137 a1)) (Go.bits .and .u64 (shl .u64 a3 a1) (shl .u64 t137 a1)))) else (none))) else (some a0))) = some r := h
  clear h
  replace H := Option.bind_eq_some_iff.mp H
  obtain ⟨t136, A50, H⟩ := H
  replace H : (if t136 = true then ((bits_mask.f a2).bind fun t137 => (if 0 ≤ a1 then (some (Go.bits .or .u64 (Go.bits .andNot .u64 a0 (shl .u64 t137 a1)) (Go.bits .and .u64 (shl .u64 a3 a1) (shl .u64 t137 a1)))) else (none))) else (some a0)) = some r := H
  have A5 := Aside0.mk A50
  clear A50
  by_cases c6 : t136 = true
  · subst c6
    have H1 : ((bits_mask.f a2).bind fun t137 => (if 0 ≤ a1 then (some (Go.bits .or .u64 (Go.bits .andNot .u64 a0 (shl .u64 t137 a1)) (Go.bits .and .u64 (shl .u64 a3 a1) (shl .u64 t137 a1)))) else (none))) = some r := by rw [if_pos rfl] at H; exact H
    clear H
    have H := H1
    clear H1
    replace H := Option.bind_eq_some_iff.mp H
    obtain ⟨t137, A70, H⟩ := H
    replace H : (if 0 ≤ a1 then (some (Go.bits .or .u64 (Go.bits .andNot .u64 a0 (shl .u64 t137 a1)) (Go.bits .and .u64 (shl .u64 a3 a1) (shl .u64 t137 a1)))) else (none)) = some r := H
    have A7 := Aside0.mk A70
    clear A70
    by_cases c8 : 0 ≤ a1
    · rw [if_pos c8] at H
      have c8b0 := eq_true c8
      have c8b1 : decide (0 ≤ a1) = true := decide_eq_true c8
      clear c8
      obtain ⟨ji9, hji9⟩ : ∃ j_ : Int, (shl .u64 t137 a1) = j_ := ⟨_, rfl⟩
      replace H : (some (Go.bits .or .u64 (Go.bits .andNot .u64 a0 (ji9)) (Go.bits .and .u64 (shl .u64 a3 a1) (ji9)))) = some r := by first | (rw [hji9] at H; exact H) | (simp only [hji9] at H ⊢; exact H)
      (try rw [hji9] at A5)
      (try rw [hji9] at A7)
      have hji9_ : (IntKind.u64.wrap (t137 * 2 ^ min a1.toNat 64)) = ji9 := hji9
      have hji9z : a1 ≤ 64 → (IntKind.u64.wrap (t137 * 2 ^ a1.toNat)) = ji9 := shl_small hji9
      have c10b0 := eq_true (of_decide_eq_true (by first | (with_reducible assumption) | assumption) : 0 ≤ a1)
      obtain ⟨ji11, hji11⟩ : ∃ j_ : Int, (shl .u64 a3 a1) = j_ := ⟨_, rfl⟩
      replace H : (some (Go.bits .or .u64 (Go.bits .andNot .u64 a0 (ji9)) (Go.bits .and .u64 (ji11) (ji9)))) = some r := by first | (rw [hji11] at H; exact H) | (simp only [hji11] at H ⊢; exact H)
      (try rw [hji11] at A5)
      (try rw [hji11] at A7)
      have hji11_ : (IntKind.u64.wrap (a3 * 2 ^ min a1.toNat 64)) = ji11 := hji11
      have hji11z : a1 ≤ 64 → (IntKind.u64.wrap (a3 * 2 ^ a1.toNat)) = ji11 := shl_small hji11
      obtain rfl := Option.some.inj H
      go_enter Try.func37, Try.ntmps37
      go_wp2_with (first | ((with_reducible refine gate_callee (f := 54) rfl ?_); refine goesL_ (some 12) rfl rfl Try.func54 (by kernel_rfl) rfl #[.int .i64 a1, .int .i64 a2] rfl (by (try simp only [List.map_toArray, List.map_cons, List.map_nil]); first | done | rfl | (simp only [List.length_drop, List.length_take]; rfl)) ?_; (with_reducible refine (bits_is.calls a1 a2 true _ A5.out).mono ?_); rintro e w' ⟨rfl, ⟨nd, rfl⟩⟩; refine ⟨_, rfl, ?_⟩) | ((with_reducible refine gate_callee (f := 55) rfl ?_); refine goesL_ (some 16) rfl rfl Try.func55 (by kernel_rfl) rfl #[.int .i64 a2] rfl (by (try simp only [List.map_toArray, List.map_cons, List.map_nil]); first | done | rfl | (simp only [List.length_drop, List.length_take]; rfl)) ?_; (with_reducible refine (bits_mask.calls a2 t137 _ A7.out).mono ?_); rintro e w' ⟨rfl, ⟨nd, rfl⟩⟩; refine ⟨_, rfl, ?_⟩))
      go_ret
      exact ⟨by first | rfl | (simp; done) | (simp only [← hji9, ← hji11] <;> (first | rfl | simp)) | (simp [*]; done), by repeat (first | exact Drawn0.refl _ | apply Drawn0.step)⟩
    · rw [if_neg c8] at H
      exact absurd H (by simp)
  · replace c6 := Bool.eq_false_iff.mpr c6
    subst c6
    have H1 : (some a0) = some r := by rw [if_neg (show ¬ (false = true) by decide)] at H; exact H
    clear H
    have H := H1
    clear H1
    obtain rfl := Option.some.inj H
    go_enter Try.func37, Try.ntmps37
    go_wp2_with (first | ((with_reducible refine gate_callee (f := 54) rfl ?_); refine goesL_ (some 12) rfl rfl Try.func54 (by kernel_rfl) rfl #[.int .i64 a1, .int .i64 a2] rfl (by (try simp only [List.map_toArray, List.map_cons, List.map_nil]); first | done | rfl | (simp only [List.length_drop, List.length_take]; rfl)) ?_; (with_reducible refine (bits_is.calls a1 a2 false _ A5.out).mono ?_); rintro e w' ⟨rfl, ⟨nd, rfl⟩⟩; refine ⟨_, rfl, ?_⟩))
    go_ret
    exact ⟨by first | rfl | (simp; done) | (simp [*]; done), by repeat (first | exact Drawn0.refl _ | apply Drawn0.step)⟩
def bits_Place.f (a0 : Int) (a1 : Int) (a2 : Int) (a3 : Int) : Option (Int) := if U64 a0 ∧ U64 a3 then some (placeOf a0 a1 a2 a3) else none
theorem bits_Place.spec (a0 a1 a2 a3 r : Int) (h : bits_Place.f a0 a1 a2 a3 = some r) : bits_Place0.f a0 a1 a2 a3 = some r := by
  unfold bits_Place.f at h
  by_cases hu : U64 a0 ∧ U64 a3
  · rw [if_pos hu] at h
    obtain rfl := Option.some.inj h
    unfold bits_Place0.f bits_is.f
    by_cases h1 : a1 ≥ 0
    · rw [if_pos h1]
      by_cases h2 : a1 < 64
      · rw [if_pos h2]
        simp only [Option.bind_some]
        by_cases h3 : a2 ≥ 1
        · rw [decide_eq_true h3, if_pos rfl, bits_mask.f, if_pos h3]
          simp only [Option.bind_some]
          rw [if_pos h1]
          obtain ⟨X, rfl, hX⟩ := hu.1.nat
          obtain ⟨V, rfl, hV⟩ := hu.2.nat
          obtain ⟨L, rfl⟩ : ∃ L : Nat, a1 = L := ⟨a1.toNat, by omega⟩
          obtain ⟨M, rfl⟩ : ∃ M : Nat, a2 = M := ⟨a2.toNat, by omega⟩
          rw [place_nat X L M V (by omega) (by omega), show (min (M : Int) 64).toNat = min M 64 from by omega]
          have es : ∀ Y : Nat, shl .u64 (Y : Int) (L : Int) = ((Y * 2 ^ L % 2 ^ 64 : Nat) : Int) := fun Y => by
            unfold shl; rw [Int.toNat_natCast, Nat.min_eq_left (show L ≤ IntKind.u64.bits by show _ ≤ 64; omega), u64w]; simp
          have em : ((2 : Int) ^ (min M 64) - 1) = ((2 ^ (min M 64) - 1 : Nat) : Int) := by rw [ipow]; have := Nat.two_pow_pos (min M 64); omega
          have hlt : ∀ Y : Nat, Y % 2 ^ 64 < 2 ^ 64 := fun Y => Nat.mod_lt _ (by decide)
          have hlt2 : ∀ Y Z : Nat, (Y % 2 ^ 64) &&& Z < 2 ^ 64 := fun Y Z => Nat.lt_of_le_of_lt Nat.and_le_left (hlt _)
          rw [em, es, es, andNot_nat _ _ hX (hlt _), and_nat _ _ (hlt _) (hlt _), or_nat _ _ (minus_lt _ _ hX) (hlt2 _ _)]
          congr 2
          apply Nat.eq_of_testBit_eq
          intro i
          rw [testBit_place, Nat.testBit_or, Nat.testBit_and, testBit_minus _ _ _ hX (hlt _)]
          rw [Nat.testBit_mod_two_pow, Nat.testBit_mod_two_pow, Nat.mul_comm _ (2 ^ L), Nat.mul_comm _ (2 ^ L), Nat.testBit_two_pow_mul, Nat.testBit_two_pow_mul, Nat.testBit_two_pow_sub_one]
          by_cases hi : i < 64
          · by_cases hl : L ≤ i
            · by_cases hm : i - L < min M 64
              · rw [if_pos (by omega)]; simp [hi, hl, hm]
              · rw [if_neg (by omega)]; simp [hi, hl, hm]
            · rw [if_neg (by omega)]; simp [hi, hl]
          · rw [bits_of_lt hX (by omega), if_neg (by omega)]; simp [hi]
        · rw [decide_eq_false h3, if_neg (by decide), placeOf, if_pos (Or.inr (Or.inr (by omega)))]
      · rw [if_neg h2]; simp only [Option.bind_some]
        rw [if_neg (by decide), placeOf, if_pos (Or.inr (Or.inl (by omega)))]
    · rw [if_neg h1]; simp only [Option.bind_some]
      rw [if_neg (by decide), placeOf, if_pos (Or.inl (by omega))]
  · rw [if_neg hu] at h; exact absurd h (by simp)
theorem bits_Place.eq {a0 a3 : Int} (h : U64 a0) (h3 : U64 a3) (a1 a2 : Int) : bits_Place.f a0 a1 a2 a3 = some (placeOf a0 a1 a2 a3) := if_pos ⟨h, h3⟩


theorem bits_Place.calls (a0 : Int) (a1 : Int) (a2 : Int) (a3 : Int) (r : Int) (w : World) (h : bits_Place.f a0 a1 a2 a3 = some r) :
    Calls Try.prog 37 #[.int .u64 a0, .int .i64 a1, .int .i64 a2, .int .u64 a3] w fun e w' => e = .returned (.int .u64 r) ∧ Drawn0 w w' := by
  have hk := bits_Place.spec a0 a1 a2 a3 r h
  exact bits_Place0.calls a0 a1 a2 a3 r w hk

end Go.Proofs.Ytcjfafhbohkhlaa.PAll
