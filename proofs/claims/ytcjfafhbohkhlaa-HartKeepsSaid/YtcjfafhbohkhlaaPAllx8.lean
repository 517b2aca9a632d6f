/- DERIVED. The contracts of the Go functions that one law reaches: each call returns what the plain function beside it says, under that theorem's own premises. Written by a program (hp.py) over the kit's printed words. -/
import Derived.Test.YtcjfafhbohkhlaaPAllx0
import Derived.Test.YtcjfafhbohkhlaaPAllx3
import Derived.Test.YtcjfafhbohkhlaaPAllx6
import Derived.Test.YtcjfafhbohkhlaaPAllx7
namespace Go.Proofs.Ytcjfafhbohkhlaa.PAll
open Go.RowKit Go.Proofs.YtcjfafhbohkhlaaW.PrintWords Go.Proofs.YtcjfafhbohkhlaaW.PrintLast Go.Proofs.YtcjfafhbohkhlaaW.PrintMore Go.Proofs.Ytcjfafhbohkhlaa.M
attribute [local go_sem] max2_int min2_int max_two min_two max_three min_three max_four min_four   -- for this text's walks alone
set_option linter.unusedVariables false
set_option linter.unusedSimpArgs false

/-! ### alu_Address: function 41 -/
def alu_Address.j0 : Nat → Int → Bool → Int → Int → Int → Int → Int → Bool → Bool → Option (Int)
  | 0, _, _, _, _, _, _, _, _, _ => none
  | k + 1, x1, x5, x177000, x177001, x177002, x177003, x177004, x177005, x177006 => if x5 = true then (some (IntKind.u64.wrap (x1 + (IntKind.u64.wrap (x177004))))) else ((inst_Atomic.f x177000).bind fun t177 => (if t177 = true then (some x1) else (some 0)))
def alu_Address.f (k : Nat) (a0_0 : Int) (a0_1 : Int) (a0_2 : Int) (a0_3 : Int) (a0_4 : Int) (a0_5 : Bool) (a0_6 : Bool) (a1 : Int) : Option (Int) := if a0_0 ≥ 11 then (alu_Address.j0 k a1 (decide (a0_0 ≤ 21)) a0_0 a0_1 a0_2 a0_3 a0_4 a0_5 a0_6) else (alu_Address.j0 k a1 false a0_0 a0_1 a0_2 a0_3 a0_4 a0_5 a0_6)
theorem alu_Address.mono_l : ∀ k, (∀ y0 y1 y2 y3 y4 y5 y6 y7 y8, LeO (alu_Address.j0 k y0 y1 y2 y3 y4 y5 y6 y7 y8) (alu_Address.j0 (k + 1) y0 y1 y2 y3 y4 y5 y6 y7 y8))
  | 0 => fun _ _ _ _ _ _ _ _ _ r h => by simp [alu_Address.j0] at h
  | k + 1 => by
    have ih0 := alu_Address.mono_l k
    · intro y0 y1 y2 y3 y4 y5 y6 y7 y8
      unfold alu_Address.j0
      repeat' first
      | (with_reducible exact ih0 _ _ _ _ _ _ _ _ _)
      | (with_reducible exact LeO.refl _)
      | (with_reducible exact LeO.none _)
      | (with_reducible refine LeO.ite ?_ ?_)
      | (with_reducible refine LeO.bind ?_ (fun _ => ?_))
      | exact ih0 _ _ _ _ _ _ _ _ _
      | exact LeO.none _
      | refine LeO.ite ?_ ?_
      | refine LeO.bind ?_ (fun _ => ?_)
theorem alu_Address.mono : ∀ a0 a1 a2 a3 a4 a5 a6 a7 k, LeO (alu_Address.f k a0 a1 a2 a3 a4 a5 a6 a7) (alu_Address.f (k + 1) a0 a1 a2 a3 a4 a5 a6 a7) := by
  intro a0 a1 a2 a3 a4 a5 a6 a7 k
  have ih0 := alu_Address.mono_l k
  unfold alu_Address.f
  repeat' first
      | (with_reducible exact ih0 _ _ _ _ _ _ _ _ _)
      | (with_reducible exact LeO.refl _)
      | (with_reducible exact LeO.none _)
      | (with_reducible refine LeO.ite ?_ ?_)
      | (with_reducible refine LeO.bind ?_ (fun _ => ?_))
      | exact ih0 _ _ _ _ _ _ _ _ _
      | exact LeO.none _
      | refine LeO.ite ?_ ?_
      | refine LeO.bind ?_ (fun _ => ?_)
set_option maxHeartbeats 8000000 in
set_option maxRecDepth 100000 in
theorem alu_Address.calls (k : Nat) (a0_0 : Int) (a0_1 : Int) (a0_2 : Int) (a0_3 : Int) (a0_4 : Int) (a0_5 : Bool) (a0_6 : Bool) (a1 : Int) (r : Int) (w : World) (h : alu_Address.f k a0_0 a0_1 a0_2 a0_3 a0_4 a0_5 a0_6 a1 = some r) :
    Calls Try.prog 41 #[.agg #[.int .i64 a0_0, .int .i64 a0_1, .int .i64 a0_2, .int .i64 a0_3, .int .i64 a0_4, .bool a0_5, .bool a0_6], .int .u64 a1] w fun e w' => e = .returned (.int .u64 r) ∧ Below w.heap.size w w' := by
  have hu37 := Try.underlying37
  have HB := Aside0.mk (Below.refl w.heap.size w)
  have H : (if a0_0 ≥ 11 then (alu_Address.j0 k a1 (decide (a0_0 ≤ 21)) a0_0 a0_1 a0_2 a0_3 a0_4 a0_5 a0_6) else (alu_Address.j0 k a1 false a0_0 a0_1 a0_2 a0_3 a0_4 a0_5 a0_6)) = some r := h
  clear h
  have HC3 := Aside0.mk H
  clear H
  go_enter Try.func41, Try.ntmps41
  go_upto_region 1 with (first | ((with_reducible refine gate_dst (N := 2) rfl ?_); refine box_event ?hg (N := 2) ?hd (cs := #[.int .i64 a0_0, .int .i64 a0_1, .int .i64 a0_2, .int .i64 a0_3, .int .i64 a0_4, .bool a0_5, .bool a0_6]) (t := 37) ?hr ?_; (case hd => rfl); (case hg => rfl); (case hr => first | (go_simp; done) | (go_simp; rfl)); intro gb176 hg w4 hbox hb; have n0_ := Aside0.mk (below_step (by repeat (first | (with_reducible first | exact HB.out | apply below_alloc | apply pw_below_drewN | apply below_drew1) | exact HB.out)) hb); have n1_ := Aside0.mk (hbox); have n2_ := Aside0.mk ((by rw [hg]; exact (below_size (by repeat (first | (with_reducible first | exact HB.out | apply below_alloc | apply pw_below_drewN | apply below_drew1) | exact HB.out))) : w.heap.size ≤ gb176)); have n3_ := Aside0.mk ((by rw [hg]; exact (below_size (by repeat (first | (with_reducible first | exact HB.out | apply below_alloc | apply pw_below_drewN | apply below_drew1) | exact HB.out))) : w.heap.size ≤ gb176)); clear HB; have HB := n0_; have BK176 := n1_; have GW176 := n2_; have GE176 := n3_; clear n0_ n1_ n2_ n3_; clear hb hbox hg))
  (try simp only [Act.put, List.setIfInBounds_toArray, List.set_cons_zero, List.set_cons_succ])
  go_cut [5] (fun v5 wc => ∃ (kq : Nat) (x5_2 : Bool), v5 = .bool x5_2 ∧ Aside0 (alu_Address.j0 kq a1 x5_2 a0_0 a0_1 a0_2 a0_3 a0_4 a0_5 a0_6 = some r) ∧ Aside0 (kq ≤ k) ∧ Aside0 (wc.heap[gb176]? = some (.cells #[.int .i64 a0_0, .int .i64 a0_1, .int .i64 a0_2, .int .i64 a0_3, .int .i64 a0_4, .bool a0_5, .bool a0_6] 37 (0, 0))) ∧ Aside0 (Below w.heap.size w wc))
  case first =>
    have H := HC3.out
    clear HC3
    by_cases c5 : a0_0 ≥ 11
    · rw [if_pos c5] at H
      have c5b0 : decide (11 ≤ a0_0) = true := decide_eq_true c5
      clear c5
      (first | rw [c5b0] | (simp only [i64_w, i32_w]; rw [c5b0]) | skip)
      have H' := Aside0.mk H
      clear H
      have hcz6_0 : w4.cell? ⟨gb176, 0, none⟩ = some (.int .i64 a0_0) := (blk_cell BK176.out 0).trans rfl
      have hcz6_1 : w4.cell? ⟨gb176, 1, none⟩ = some (.int .i64 a0_1) := (blk_cell BK176.out 1).trans rfl
      have hcz6_2 : w4.cell? ⟨gb176, 2, none⟩ = some (.int .i64 a0_2) := (blk_cell BK176.out 2).trans rfl
      have hcz6_3 : w4.cell? ⟨gb176, 3, none⟩ = some (.int .i64 a0_3) := (blk_cell BK176.out 3).trans rfl
      have hcz6_4 : w4.cell? ⟨gb176, 4, none⟩ = some (.int .i64 a0_4) := (blk_cell BK176.out 4).trans rfl
      have hcz6_5 : w4.cell? ⟨gb176, 5, none⟩ = some (.bool a0_5) := (blk_cell BK176.out 5).trans rfl
      have hcz6_6 : w4.cell? ⟨gb176, 6, none⟩ = some (.bool a0_6) := (blk_cell BK176.out 6).trans rfl
      have hfz6_0 := blk_frozen BK176.out 0
      have hfz6_1 := blk_frozen BK176.out 1
      have hfz6_2 := blk_frozen BK176.out 2
      have hfz6_3 := blk_frozen BK176.out 3
      have hfz6_4 := blk_frozen BK176.out 4
      have hfz6_5 := blk_frozen BK176.out 5
      have hfz6_6 := blk_frozen BK176.out 6
      go_wp2
      go_meet
      case rel => exact ⟨_, (decide (a0_0 ≤ 21)), (by first | rfl | (simp; done) | (simp [*]; done)), H', ⟨by first | omega | exact Nat.le_refl _⟩, ⟨by (with_reducible repeat (first | refine blk_drewN ?_ _ | refine blk_drew ?_ | refine blk_alloc ?_ _)); exact BK176.out⟩, ⟨by repeat (first | (with_reducible first | exact HB.out | apply below_alloc | apply pw_below_drewN | apply below_drew1 | refine below_set ?_ GE176.out) | exact HB.out)⟩⟩
    · rw [if_neg c5] at H
      have c5b0 : decide (11 ≤ a0_0) = false := decide_eq_false c5
      clear c5
      (first | rw [c5b0] | (simp only [i64_w, i32_w]; rw [c5b0]) | skip)
      have H' := Aside0.mk H
      clear H
      have hcz7_0 : w4.cell? ⟨gb176, 0, none⟩ = some (.int .i64 a0_0) := (blk_cell BK176.out 0).trans rfl
      have hcz7_1 : w4.cell? ⟨gb176, 1, none⟩ = some (.int .i64 a0_1) := (blk_cell BK176.out 1).trans rfl
      have hcz7_2 : w4.cell? ⟨gb176, 2, none⟩ = some (.int .i64 a0_2) := (blk_cell BK176.out 2).trans rfl
      have hcz7_3 : w4.cell? ⟨gb176, 3, none⟩ = some (.int .i64 a0_3) := (blk_cell BK176.out 3).trans rfl
      have hcz7_4 : w4.cell? ⟨gb176, 4, none⟩ = some (.int .i64 a0_4) := (blk_cell BK176.out 4).trans rfl
      have hcz7_5 : w4.cell? ⟨gb176, 5, none⟩ = some (.bool a0_5) := (blk_cell BK176.out 5).trans rfl
      have hcz7_6 : w4.cell? ⟨gb176, 6, none⟩ = some (.bool a0_6) := (blk_cell BK176.out 6).trans rfl
      have hfz7_0 := blk_frozen BK176.out 0
      have hfz7_1 := blk_frozen BK176.out 1
      have hfz7_2 := blk_frozen BK176.out 2
      have hfz7_3 := blk_frozen BK176.out 3
      have hfz7_4 := blk_frozen BK176.out 4
      have hfz7_5 := blk_frozen BK176.out 5
      have hfz7_6 := blk_frozen BK176.out 6
      go_wp2
      go_meet
      case rel => exact ⟨_, (false), (by first | rfl | (simp; done) | (simp [*]; done)), H', ⟨by first | omega | exact Nat.le_refl _⟩, ⟨by (with_reducible repeat (first | refine blk_drewN ?_ _ | refine blk_drew ?_ | refine blk_alloc ?_ _)); exact BK176.out⟩, ⟨by repeat (first | (with_reducible first | exact HB.out | apply below_alloc | apply pw_below_drewN | apply below_drew1 | refine below_set ?_ GE176.out) | exact HB.out)⟩⟩
  case rest =>
    clear HC3
    try clear p2
    try clear c4
    try clear c5
    try clear c5b0
    try clear hcz6_0
    try clear hcz6_1
    try clear hcz6_2
    try clear hcz6_3
    try clear hcz6_4
    try clear hcz6_5
    try clear hcz6_6
    try clear hcz7_0
    try clear hcz7_1
    try clear hcz7_2
    try clear hcz7_3
    try clear hcz7_4
    try clear hcz7_5
    try clear hcz7_6
    try clear hfz6_0
    try clear hfz6_1
    try clear hfz6_2
    try clear hfz6_3
    try clear hfz6_4
    try clear hfz6_5
    try clear hfz6_6
    try clear hfz7_0
    try clear hfz7_1
    try clear hfz7_2
    try clear hfz7_3
    try clear hfz7_4
    try clear hfz7_5
    try clear hfz7_6
    obtain ⟨kq, x5_2, rfl, HA, HJ2, BK176, HB⟩ := hcut
    cases kq with
    | zero => exact absurd HA.out (by simp [alu_Address.j0])
    | succ kj2 =>
      have H := HA.out
      clear HA
      simp only [alu_Address.j0] at H
      by_cases c8 : x5_2 = true
      · subst c8
        have H1 : (some (IntKind.u64.wrap (a1 + (IntKind.u64.wrap (a0_4))))) = some r := by rw [if_pos rfl] at H; exact H
        clear H
        have H := H1
        clear H1
        obtain rfl := Option.some.inj H
        have hcz9_0 : wc.cell? ⟨gb176, 0, none⟩ = some (.int .i64 a0_0) := (blk_cell BK176.out 0).trans rfl
        have hcz9_1 : wc.cell? ⟨gb176, 1, none⟩ = some (.int .i64 a0_1) := (blk_cell BK176.out 1).trans rfl
        have hcz9_2 : wc.cell? ⟨gb176, 2, none⟩ = some (.int .i64 a0_2) := (blk_cell BK176.out 2).trans rfl
        have hcz9_3 : wc.cell? ⟨gb176, 3, none⟩ = some (.int .i64 a0_3) := (blk_cell BK176.out 3).trans rfl
        have hcz9_4 : wc.cell? ⟨gb176, 4, none⟩ = some (.int .i64 a0_4) := (blk_cell BK176.out 4).trans rfl
        have hcz9_5 : wc.cell? ⟨gb176, 5, none⟩ = some (.bool a0_5) := (blk_cell BK176.out 5).trans rfl
        have hcz9_6 : wc.cell? ⟨gb176, 6, none⟩ = some (.bool a0_6) := (blk_cell BK176.out 6).trans rfl
        have hfz9_0 := blk_frozen BK176.out 0
        have hfz9_1 := blk_frozen BK176.out 1
        have hfz9_2 := blk_frozen BK176.out 2
        have hfz9_3 := blk_frozen BK176.out 3
        have hfz9_4 := blk_frozen BK176.out 4
        have hfz9_5 := blk_frozen BK176.out 5
        have hfz9_6 := blk_frozen BK176.out 6
        go_wp2
        go_ret
        exact ⟨by first | rfl | (simp [errW_none, errW_some] <;> rfl) | (simp [*, errW_none, errW_some] <;> rfl), by repeat (first | (with_reducible first | exact HB.out | apply below_alloc | apply pw_below_drewN | apply below_drew1 | refine below_set ?_ GE176.out) | exact HB.out)⟩
      · replace c8 := Bool.eq_false_iff.mpr c8
        subst c8
        have H1 : ((inst_Atomic.f a0_0).bind fun t177 => (if t177 = true then (some a1) else (some 0))) = some r := by rw [if_neg (show ¬ (false = true) by decide)] at H; exact H
        clear H
        have H := H1
        clear H1
        replace H := Option.bind_eq_some_iff.mp H
        obtain ⟨t177, A100, H⟩ := H
        replace H : (if t177 = true then (some a1) else (some 0)) = some r := H
        have A10 := Aside0.mk A100
        clear A100
        by_cases c11 : t177 = true
        · subst c11
          have H1 : (some a1) = some r := by rw [if_pos rfl] at H; exact H
          clear H
          have H := H1
          clear H1
          obtain rfl := Option.some.inj H
          have hcz12_0 : wc.cell? ⟨gb176, 0, none⟩ = some (.int .i64 a0_0) := (blk_cell BK176.out 0).trans rfl
          have hcz12_1 : wc.cell? ⟨gb176, 1, none⟩ = some (.int .i64 a0_1) := (blk_cell BK176.out 1).trans rfl
          have hcz12_2 : wc.cell? ⟨gb176, 2, none⟩ = some (.int .i64 a0_2) := (blk_cell BK176.out 2).trans rfl
          have hcz12_3 : wc.cell? ⟨gb176, 3, none⟩ = some (.int .i64 a0_3) := (blk_cell BK176.out 3).trans rfl
          have hcz12_4 : wc.cell? ⟨gb176, 4, none⟩ = some (.int .i64 a0_4) := (blk_cell BK176.out 4).trans rfl
          have hcz12_5 : wc.cell? ⟨gb176, 5, none⟩ = some (.bool a0_5) := (blk_cell BK176.out 5).trans rfl
          have hcz12_6 : wc.cell? ⟨gb176, 6, none⟩ = some (.bool a0_6) := (blk_cell BK176.out 6).trans rfl
          have hfz12_0 := blk_frozen BK176.out 0
          have hfz12_1 := blk_frozen BK176.out 1
          have hfz12_2 := blk_frozen BK176.out 2
          have hfz12_3 := blk_frozen BK176.out 3
          have hfz12_4 := blk_frozen BK176.out 4
          have hfz12_5 := blk_frozen BK176.out 5
          have hfz12_6 := blk_frozen BK176.out 6
          go_wp2_with (first | ((with_reducible refine gate_callee (f := 33) rfl ?_); refine goesL_ (some 22) rfl rfl Try.func33 (by kernel_rfl) rfl #[.int .i64 a0_0] rfl (by (try simp only [List.map_toArray, List.map_cons, List.map_nil]); first | done | rfl | (simp only [List.length_drop, List.length_take]; rfl)) ?_; (with_reducible refine (inst_Atomic.calls a0_0 true _ A10.out).mono ?_); rintro e w' ⟨rfl, ⟨nd, rfl⟩⟩; refine ⟨_, rfl, ?_⟩))
          go_ret
          exact ⟨by first | rfl | (simp [errW_none, errW_some] <;> rfl) | (simp [*, errW_none, errW_some] <;> rfl), by repeat (first | (with_reducible first | exact HB.out | apply below_alloc | apply pw_below_drewN | apply below_drew1 | refine below_set ?_ GE176.out) | exact HB.out)⟩
        · replace c11 := Bool.eq_false_iff.mpr c11
          subst c11
          have H1 : (some 0) = some r := by rw [if_neg (show ¬ (false = true) by decide)] at H; exact H
          clear H
          have H := H1
          clear H1
          obtain rfl := Option.some.inj H
          have hcz13_0 : wc.cell? ⟨gb176, 0, none⟩ = some (.int .i64 a0_0) := (blk_cell BK176.out 0).trans rfl
          have hcz13_1 : wc.cell? ⟨gb176, 1, none⟩ = some (.int .i64 a0_1) := (blk_cell BK176.out 1).trans rfl
          have hcz13_2 : wc.cell? ⟨gb176, 2, none⟩ = some (.int .i64 a0_2) := (blk_cell BK176.out 2).trans rfl
          have hcz13_3 : wc.cell? ⟨gb176, 3, none⟩ = some (.int .i64 a0_3) := (blk_cell BK176.out 3).trans rfl
          have hcz13_4 : wc.cell? ⟨gb176, 4, none⟩ = some (.int .i64 a0_4) := (blk_cell BK176.out 4).trans rfl
          have hcz13_5 : wc.cell? ⟨gb176, 5, none⟩ = some (.bool a0_5) := (blk_cell BK176.out 5).trans rfl
          have hcz13_6 : wc.cell? ⟨gb176, 6, none⟩ = some (.bool a0_6) := (blk_cell BK176.out 6).trans rfl
          have hfz13_0 := blk_frozen BK176.out 0
          have hfz13_1 := blk_frozen BK176.out 1
          have hfz13_2 := blk_frozen BK176.out 2
          have hfz13_3 := blk_frozen BK176.out 3
          have hfz13_4 := blk_frozen BK176.out 4
          have hfz13_5 := blk_frozen BK176.out 5
          have hfz13_6 := blk_frozen BK176.out 6
          go_wp2_with (first | ((with_reducible refine gate_callee (f := 33) rfl ?_); refine goesL_ (some 22) rfl rfl Try.func33 (by kernel_rfl) rfl #[.int .i64 a0_0] rfl (by (try simp only [List.map_toArray, List.map_cons, List.map_nil]); first | done | rfl | (simp only [List.length_drop, List.length_take]; rfl)) ?_; (with_reducible refine (inst_Atomic.calls a0_0 false _ A10.out).mono ?_); rintro e w' ⟨rfl, ⟨nd, rfl⟩⟩; refine ⟨_, rfl, ?_⟩))
          go_ret
          exact ⟨by first | rfl | (simp [errW_none, errW_some] <;> rfl) | (simp [*, errW_none, errW_some] <;> rfl), by repeat (first | (with_reducible first | exact HB.out | apply below_alloc | apply pw_below_drewN | apply below_drew1 | refine below_set ?_ GE176.out) | exact HB.out)⟩

/-! ### alu_Stored: function 42 -/
def alu_Stored.j0 : Nat → Int → Int → Int → Int → Option (Int)
  | 0, _, _, _, _ => none
  | k + 1, x1, x2, x7, x8 => (bits_Sign.f x1 x7).bind fun t180 => ((bits_Sign.f x2 x7).bind fun t181 => ((bits_Field.f x1 0 x7).bind fun t182 => ((bits_Field.f x2 0 x7).bind fun t183 => (if x8 = 69 then ((bits_Field.f (IntKind.u64.wrap (t181 + t180)) 0 x7).bind fun t184 => (some t184)) else (if x8 = 70 then ((bits_Field.f (Go.bits .xor .u64 t181 t180) 0 x7).bind fun t185 => (some t185)) else (if x8 = 71 then ((bits_Field.f (Go.bits .and .u64 t181 t180) 0 x7).bind fun t186 => (some t186)) else (if x8 = 72 then ((bits_Field.f (Go.bits .or .u64 t181 t180) 0 x7).bind fun t187 => (some t187)) else (if x8 = 73 then ((bits_Field.f (IntKind.u64.wrap (mn (wrap64 (t180)) (wrap64 (t181)))) 0 x7).bind fun t188 => (some t188)) else (if x8 = 74 then ((bits_Field.f (IntKind.u64.wrap (mx (wrap64 (t180)) (wrap64 (t181)))) 0 x7).bind fun t189 => (some t189)) else (if x8 = 75 then ((bits_Field.f (mn t182 t183) 0 x7).bind fun t190 => (some t190)) else (if x8 = 76 then ((bits_Field.f (mx t182 t183) 0 x7).bind fun t191 => (some t191)) else ((bits_Field.f t181 0 x7).bind fun t192 => (some t192)))))))))))))
def alu_Stored.f (k : Nat) (a0 : Int) (a1 : Int) (a2 : Int) : Option (Int) := (inst_Stores.f a0).bind fun t178 => (if t178 = true then ((inst_Size.f a0).bind fun t179 => (if a0 ≥ 77 then (alu_Stored.j0 k a1 a2 (wrap64 (8 * t179)) (wrap64 (a0 - 11))) else (alu_Stored.j0 k a1 a2 (wrap64 (8 * t179)) a0))) else (some 0))
theorem alu_Stored.mono_l : ∀ k, (∀ y0 y1 y2 y3, LeO (alu_Stored.j0 k y0 y1 y2 y3) (alu_Stored.j0 (k + 1) y0 y1 y2 y3))
  | 0 => fun _ _ _ _ r h => by simp [alu_Stored.j0] at h
  | k + 1 => by
    have ih0 := alu_Stored.mono_l k
    · intro y0 y1 y2 y3
      unfold alu_Stored.j0
      repeat' first
      | (with_reducible exact ih0 _ _ _ _)
      | (with_reducible exact LeO.refl _)
      | (with_reducible exact LeO.none _)
      | (with_reducible refine LeO.ite ?_ ?_)
      | (with_reducible refine LeO.bind ?_ (fun _ => ?_))
      | exact ih0 _ _ _ _
      | exact LeO.none _
      | refine LeO.ite ?_ ?_
      | refine LeO.bind ?_ (fun _ => ?_)
theorem alu_Stored.mono : ∀ a0 a1 a2 k, LeO (alu_Stored.f k a0 a1 a2) (alu_Stored.f (k + 1) a0 a1 a2) := by
  intro a0 a1 a2 k
  have ih0 := alu_Stored.mono_l k
  unfold alu_Stored.f
  repeat' first
      | (with_reducible exact ih0 _ _ _ _)
      | (with_reducible exact LeO.refl _)
      | (with_reducible exact LeO.none _)
      | (with_reducible refine LeO.ite ?_ ?_)
      | (with_reducible refine LeO.bind ?_ (fun _ => ?_))
      | exact ih0 _ _ _ _
      | exact LeO.none _
      | refine LeO.ite ?_ ?_
      | refine LeO.bind ?_ (fun _ => ?_)
set_option maxHeartbeats 8000000 in
set_option maxRecDepth 100000 in
theorem alu_Stored.calls (k : Nat) (a0 : Int) (a1 : Int) (a2 : Int) (r : Int) (w : World) (h : alu_Stored.f k a0 a1 a2 = some r) :
    Calls Try.prog 42 #[.int .i64 a0, .int .u64 a1, .int .u64 a2] w fun e w' => e = .returned (.int .u64 r) ∧ Below w.heap.size w w' := by
  have HB := Aside0.mk (Below.refl w.heap.size w)
  have H : ((inst_Stores.f a0).bind fun t178 => (if t178 = true then ((inst_Size.f a0).bind fun t179 => (if a0 ≥ 77 then (alu_Stored.j0 k a1 a2 (wrap64 (8 * t179)) (wrap64 (a0 - 11))) else (alu_Stored.j0 k a1 a2 (wrap64 (8 * t179)) a0))) else (some 0))) = some r := h
  clear h
  replace H := Option.bind_eq_some_iff.mp H
  obtain ⟨t178, A40, H⟩ := H
  replace H : (if t178 = true then ((inst_Size.f a0).bind fun t179 => (if a0 ≥ 77 then (alu_Stored.j0 k a1 a2 (wrap64 (8 * t179)) (wrap64 (a0 - 11))) else (alu_Stored.j0 k a1 a2 (wrap64 (8 * t179)) a0))) else (some 0)) = some r := H
  have A4 := Aside0.mk A40
  clear A40
  by_cases c5 : t178 = true
  · subst c5
    have H1 : ((inst_Size.f a0).bind fun t179 => (if a0 ≥ 77 then (alu_Stored.j0 k a1 a2 (wrap64 (8 * t179)) (wrap64 (a0 - 11))) else (alu_Stored.j0 k a1 a2 (wrap64 (8 * t179)) a0))) = some r := by rw [if_pos rfl] at H; exact H
    clear H
    have H := H1
    clear H1
    replace H := Option.bind_eq_some_iff.mp H
    obtain ⟨t179, A60, H⟩ := H
    replace H : (if a0 ≥ 77 then (alu_Stored.j0 k a1 a2 (wrap64 (8 * t179)) (wrap64 (a0 - 11))) else (alu_Stored.j0 k a1 a2 (wrap64 (8 * t179)) a0)) = some r := H
    have A6 := Aside0.mk A60
    clear A60
    have HC7 := Aside0.mk H
    clear H
    go_enter Try.func42, Try.ntmps42
    go_upto_if 21 with (first | ((with_reducible refine gate_callee (f := 14) rfl ?_); refine goesL_ (some 14) rfl rfl Try.func14 (by kernel_rfl) rfl #[.int .i64 a0] rfl (by (try simp only [List.map_toArray, List.map_cons, List.map_nil]); first | done | rfl | (simp only [List.length_drop, List.length_take]; rfl)) ?_; (with_reducible refine (inst_Stores.calls a0 true _ A4.out).mono ?_); rintro e w' ⟨rfl, ⟨nd, rfl⟩⟩; refine ⟨_, rfl, ?_⟩) | ((with_reducible refine gate_callee (f := 15) rfl ?_); refine goesL_ (some 17) rfl rfl Try.func15 (by kernel_rfl) rfl #[.int .i64 a0] rfl (by (try simp only [List.map_toArray, List.map_cons, List.map_nil]); first | done | rfl | (simp only [List.length_drop, List.length_take]; rfl)) ?_; (with_reducible refine (inst_Size.calls a0 t179 _ A6.out).mono ?_); rintro e w' ⟨rfl, ⟨nd, rfl⟩⟩; refine ⟨_, rfl, ?_⟩))
    (try simp only [Act.put, List.setIfInBounds_toArray, List.set_cons_zero, List.set_cons_succ])
    go_cut [8] (fun v8 wc => ∃ (kq : Nat) (x8_6 : Int), v8 = .int .i64 x8_6 ∧ Aside0 (alu_Stored.j0 kq a1 a2 (wrap64 (8 * t179)) x8_6 = some r) ∧ Aside0 (kq ≤ k) ∧ Aside0 (Below w.heap.size w wc))
    case first =>
      have H := HC7.out
      clear HC7
      by_cases c8 : a0 ≥ 77
      · rw [if_pos c8] at H
        have c8b0 : decide (77 ≤ a0) = true := decide_eq_true c8
        clear c8
        (first | rw [c8b0] | (simp only [i64_w, i32_w]; rw [c8b0]) | skip)
        have H' := Aside0.mk H
        clear H
        go_wp2
        go_meet
        case rel => exact ⟨_, (wrap64 (a0 - 11)), (by first | rfl | (simp; done) | (simp [*]; done)), H', ⟨by first | omega | exact Nat.le_refl _⟩, ⟨by repeat (first | (with_reducible first | exact HB.out | apply below_alloc | apply pw_below_drewN | apply below_drew1) | exact HB.out)⟩⟩
      · rw [if_neg c8] at H
        have c8b0 : decide (77 ≤ a0) = false := decide_eq_false c8
        clear c8
        (first | rw [c8b0] | (simp only [i64_w, i32_w]; rw [c8b0]) | skip)
        have H' := Aside0.mk H
        clear H
        go_wp2
        go_meet
        case rel => exact ⟨_, (a0), (by first | rfl | (simp; done) | (simp [*]; done)), H', ⟨by first | omega | exact Nat.le_refl _⟩, ⟨by repeat (first | (with_reducible first | exact HB.out | apply below_alloc | apply pw_below_drewN | apply below_drew1) | exact HB.out)⟩⟩
    case rest =>
      clear HC7
      try clear c1
      try clear p2
      try clear c4
      try clear c5
      try clear p6
      try clear c8
      try clear c8b0
      obtain ⟨kq, x8_6, rfl, HA, HJ6, HB⟩ := hcut
      cases kq with
      | zero => exact absurd HA.out (by simp [alu_Stored.j0])
      | succ kj6 =>
        have H := HA.out
        clear HA
        simp only [alu_Stored.j0] at H
        replace H := Option.bind_eq_some_iff.mp H
        obtain ⟨t180, A90, H⟩ := H
        replace H : ((bits_Sign.f a2 (wrap64 (8 * t179))).bind fun t181 => ((bits_Field.f a1 0 (wrap64 (8 * t179))).bind fun t182 => ((bits_Field.f a2 0 (wrap64 (8 * t179))).bind fun t183 => (if x8_6 = 69 then ((bits_Field.f (IntKind.u64.wrap (t181 + t180)) 0 (wrap64 (8 * t179))).bind fun t184 => (some t184)) else (if x8_6 = 70 then ((bits_Field.f (Go.bits .xor .u64 t181 t180) 0 (wrap64 (8 * t179))).bind fun t185 => (some t185)) else (if x8_6 = 71 then ((bits_Field.f (Go.bits .and .u64 t181 t180) 0 (wrap64 (8 * t179))).bind fun t186 => (some t186)) else (if x8_6 = 72 then ((bits_Field.f (Go.bits .or .u64 t181 t180) 0 (wrap64 (8 * t179))).bind fun t187 => (some t187)) else (if x8_6 = 73 then ((bits_Field.f (IntKind.u64.wrap (mn (wrap64 (t180)) (wrap64 (t181)))) 0 (wrap64 (8 * t179))).bind fun t188 => (some t188)) else (if x8_6 = 74 then ((bits_Field.f (IntKind.u64.wrap (mx (wrap64 (t180)) (wrap64 (t181)))) 0 (wrap64 (8 * t179))).bind fun t189 => (some t189)) else (if x8_6 = 75 then ((bits_Field.f (mn t182 t183) 0 (wrap64 (8 * t179))).bind fun t190 => (some t190)) else (if x8_6 = 76 then ((bits_Field.f (mx t182 t183) 0 (wrap64 (8 * t179))).bind fun t191 => (some t191)) else ((bits_Field.f t181 0 (wrap64 (8 * t179))).bind fun t192 => (some t192))))))))))))) = some r := H
        have A9 := Aside0.mk A90
        clear A90
        replace H := Option.bind_eq_some_iff.mp H
        obtain ⟨t181, A100, H⟩ := H
        replace H : ((bits_Field.f a1 0 (wrap64 (8 * t179))).bind fun t182 => ((bits_Field.f a2 0 (wrap64 (8 * t179))).bind fun t183 => (if x8_6 = 69 then ((bits_Field.f (IntKind.u64.wrap (t181 + t180)) 0 (wrap64 (8 * t179))).bind fun t184 => (some t184)) else (if x8_6 = 70 then ((bits_Field.f (Go.bits .xor .u64 t181 t180) 0 (wrap64 (8 * t179))).bind fun t185 => (some t185)) else (if x8_6 = 71 then ((bits_Field.f (Go.bits .and .u64 t181 t180) 0 (wrap64 (8 * t179))).bind fun t186 => (some t186)) else (if x8_6 = 72 then ((bits_Field.f (Go.bits .or .u64 t181 t180) 0 (wrap64 (8 * t179))).bind fun t187 => (some t187)) else (if x8_6 = 73 then ((bits_Field.f (IntKind.u64.wrap (mn (wrap64 (t180)) (wrap64 (t181)))) 0 (wrap64 (8 * t179))).bind fun t188 => (some t188)) else (if x8_6 = 74 then ((bits_Field.f (IntKind.u64.wrap (mx (wrap64 (t180)) (wrap64 (t181)))) 0 (wrap64 (8 * t179))).bind fun t189 => (some t189)) else (if x8_6 = 75 then ((bits_Field.f (mn t182 t183) 0 (wrap64 (8 * t179))).bind fun t190 => (some t190)) else (if x8_6 = 76 then ((bits_Field.f (mx t182 t183) 0 (wrap64 (8 * t179))).bind fun t191 => (some t191)) else ((bits_Field.f t181 0 (wrap64 (8 * t179))).bind fun t192 => (some t192)))))))))))) = some r := H
        have A10 := Aside0.mk A100
        clear A100
        replace H := Option.bind_eq_some_iff.mp H
        obtain ⟨t182, A110, H⟩ := H
        replace H : ((bits_Field.f a2 0 (wrap64 (8 * t179))).bind fun t183 => (if x8_6 = 69 then ((bits_Field.f (IntKind.u64.wrap (t181 + t180)) 0 (wrap64 (8 * t179))).bind fun t184 => (some t184)) else (if x8_6 = 70 then ((bits_Field.f (Go.bits .xor .u64 t181 t180) 0 (wrap64 (8 * t179))).bind fun t185 => (some t185)) else (if x8_6 = 71 then ((bits_Field.f (Go.bits .and .u64 t181 t180) 0 (wrap64 (8 * t179))).bind fun t186 => (some t186)) else (if x8_6 = 72 then ((bits_Field.f (Go.bits .or .u64 t181 t180) 0 (wrap64 (8 * t179))).bind fun t187 => (some t187)) else (if x8_6 = 73 then ((bits_Field.f (IntKind.u64.wrap (mn (wrap64 (t180)) (wrap64 (t181)))) 0 (wrap64 (8 * t179))).bind fun t188 => (some t188)) else (if x8_6 = 74 then ((bits_Field.f (IntKind.u64.wrap (mx (wrap64 (t180)) (wrap64 (t181)))) 0 (wrap64 (8 * t179))).bind fun t189 => (some t189)) else (if x8_6 = 75 then ((bits_Field.f (mn t182 t183) 0 (wrap64 (8 * t179))).bind fun t190 => (some t190)) else (if x8_6 = 76 then ((bits_Field.f (mx t182 t183) 0 (wrap64 (8 * t179))).bind fun t191 => (some t191)) else ((bits_Field.f t181 0 (wrap64 (8 * t179))).bind fun t192 => (some t192))))))))))) = some r := H
        have A11 := Aside0.mk A110
        clear A110
        replace H := Option.bind_eq_some_iff.mp H
        obtain ⟨t183, A120, H⟩ := H
        replace H : (if x8_6 = 69 then ((bits_Field.f (IntKind.u64.wrap (t181 + t180)) 0 (wrap64 (8 * t179))).bind fun t184 => (some t184)) else (if x8_6 = 70 then ((bits_Field.f (Go.bits .xor .u64 t181 t180) 0 (wrap64 (8 * t179))).bind fun t185 => (some t185)) else (if x8_6 = 71 then ((bits_Field.f (Go.bits .and .u64 t181 t180) 0 (wrap64 (8 * t179))).bind fun t186 => (some t186)) else (if x8_6 = 72 then ((bits_Field.f (Go.bits .or .u64 t181 t180) 0 (wrap64 (8 * t179))).bind fun t187 => (some t187)) else (if x8_6 = 73 then ((bits_Field.f (IntKind.u64.wrap (mn (wrap64 (t180)) (wrap64 (t181)))) 0 (wrap64 (8 * t179))).bind fun t188 => (some t188)) else (if x8_6 = 74 then ((bits_Field.f (IntKind.u64.wrap (mx (wrap64 (t180)) (wrap64 (t181)))) 0 (wrap64 (8 * t179))).bind fun t189 => (some t189)) else (if x8_6 = 75 then ((bits_Field.f (mn t182 t183) 0 (wrap64 (8 * t179))).bind fun t190 => (some t190)) else (if x8_6 = 76 then ((bits_Field.f (mx t182 t183) 0 (wrap64 (8 * t179))).bind fun t191 => (some t191)) else ((bits_Field.f t181 0 (wrap64 (8 * t179))).bind fun t192 => (some t192)))))))))) = some r := H
        have A12 := Aside0.mk A120
        clear A120
        by_cases c13 : x8_6 = 69
        · rw [if_pos c13] at H
          have c13b0 : (x8_6 == 69) = true := beq_iff_eq.mpr c13
          have c13b1 : (x8_6 != 69) = false := bne_eq_false_iff_eq.mpr c13
          clear c13
          replace H := Option.bind_eq_some_iff.mp H
          obtain ⟨t184, A140, H⟩ := H
          replace H : (some t184) = some r := H
          have A14 := Aside0.mk A140
          clear A140
          obtain rfl := Option.some.inj H
          go_wp2_with (first | ((with_reducible refine gate_callee (f := 48) rfl ?_); refine goesL_ (some 26) rfl rfl Try.func48 (by kernel_rfl) rfl #[.int .u64 a1, .int .i64 (wrap64 (8 * t179))] rfl (by (try simp only [List.map_toArray, List.map_cons, List.map_nil]); first | done | rfl | (simp only [List.length_drop, List.length_take]; rfl)) ?_; (with_reducible refine (bits_Sign.calls a1 (wrap64 (8 * t179)) t180 _ A9.out).mono ?_); rintro e w' ⟨rfl, ⟨nd, rfl⟩⟩; refine ⟨_, rfl, ?_⟩) | ((with_reducible refine gate_callee (f := 48) rfl ?_); refine goesL_ (some 29) rfl rfl Try.func48 (by kernel_rfl) rfl #[.int .u64 a2, .int .i64 (wrap64 (8 * t179))] rfl (by (try simp only [List.map_toArray, List.map_cons, List.map_nil]); first | done | rfl | (simp only [List.length_drop, List.length_take]; rfl)) ?_; (with_reducible refine (bits_Sign.calls a2 (wrap64 (8 * t179)) t181 _ A10.out).mono ?_); rintro e w' ⟨rfl, ⟨nd, rfl⟩⟩; refine ⟨_, rfl, ?_⟩) | ((with_reducible refine gate_callee (f := 58) rfl ?_); refine goesL_ (some 32) rfl rfl Try.func58 (by kernel_rfl) rfl #[.int .u64 a1, .int .i64 0, .int .i64 (wrap64 (8 * t179))] rfl (by (try simp only [List.map_toArray, List.map_cons, List.map_nil]); first | done | rfl | (simp only [List.length_drop, List.length_take]; rfl)) ?_; (with_reducible refine (bits_Field.calls a1 0 (wrap64 (8 * t179)) t182 _ A11.out).mono ?_); rintro e w' ⟨rfl, ⟨nd, rfl⟩⟩; refine ⟨_, rfl, ?_⟩) | ((with_reducible refine gate_callee (f := 58) rfl ?_); refine goesL_ (some 35) rfl rfl Try.func58 (by kernel_rfl) rfl #[.int .u64 a2, .int .i64 0, .int .i64 (wrap64 (8 * t179))] rfl (by (try simp only [List.map_toArray, List.map_cons, List.map_nil]); first | done | rfl | (simp only [List.length_drop, List.length_take]; rfl)) ?_; (with_reducible refine (bits_Field.calls a2 0 (wrap64 (8 * t179)) t183 _ A12.out).mono ?_); rintro e w' ⟨rfl, ⟨nd, rfl⟩⟩; refine ⟨_, rfl, ?_⟩) | ((with_reducible refine gate_callee (f := 58) rfl ?_); refine goesL_ (some 85) rfl rfl Try.func58 (by kernel_rfl) rfl #[.int .u64 (IntKind.u64.wrap (t181 + t180)), .int .i64 0, .int .i64 (wrap64 (8 * t179))] rfl (by (try simp only [List.map_toArray, List.map_cons, List.map_nil]); first | done | rfl | (simp only [List.length_drop, List.length_take]; rfl)) ?_; (with_reducible refine (bits_Field.calls (IntKind.u64.wrap (t181 + t180)) 0 (wrap64 (8 * t179)) t184 _ A14.out).mono ?_); rintro e w' ⟨rfl, ⟨nd, rfl⟩⟩; refine ⟨_, rfl, ?_⟩))
          go_ret
          exact ⟨by first | rfl | (simp [errW_none, errW_some] <;> rfl) | (simp [*, errW_none, errW_some] <;> rfl), by repeat (first | (with_reducible first | exact HB.out | apply below_alloc | apply pw_below_drewN | apply below_drew1) | exact HB.out)⟩
        · rw [if_neg c13] at H
          have c13b0 : (x8_6 == 69) = false := beq_eq_false_iff_ne.mpr c13
          have c13b1 : (x8_6 != 69) = true := bne_iff_ne.mpr c13
          by_cases c15 : x8_6 = 70
          · rw [if_pos c15] at H
            have c15b0 : (x8_6 == 70) = true := beq_iff_eq.mpr c15
            have c15b1 : (x8_6 != 70) = false := bne_eq_false_iff_eq.mpr c15
            clear c15
            replace H := Option.bind_eq_some_iff.mp H
            obtain ⟨t185, A160, H⟩ := H
            replace H : (some t185) = some r := H
            have A16 := Aside0.mk A160
            clear A160
            obtain rfl := Option.some.inj H
            go_wp2_with (first | ((with_reducible refine gate_callee (f := 48) rfl ?_); refine goesL_ (some 26) rfl rfl Try.func48 (by kernel_rfl) rfl #[.int .u64 a1, .int .i64 (wrap64 (8 * t179))] rfl (by (try simp only [List.map_toArray, List.map_cons, List.map_nil]); first | done | rfl | (simp only [List.length_drop, List.length_take]; rfl)) ?_; (with_reducible refine (bits_Sign.calls a1 (wrap64 (8 * t179)) t180 _ A9.out).mono ?_); rintro e w' ⟨rfl, ⟨nd, rfl⟩⟩; refine ⟨_, rfl, ?_⟩) | ((with_reducible refine gate_callee (f := 48) rfl ?_); refine goesL_ (some 29) rfl rfl Try.func48 (by kernel_rfl) rfl #[.int .u64 a2, .int .i64 (wrap64 (8 * t179))] rfl (by (try simp only [List.map_toArray, List.map_cons, List.map_nil]); first | done | rfl | (simp only [List.length_drop, List.length_take]; rfl)) ?_; (with_reducible refine (bits_Sign.calls a2 (wrap64 (8 * t179)) t181 _ A10.out).mono ?_); rintro e w' ⟨rfl, ⟨nd, rfl⟩⟩; refine ⟨_, rfl, ?_⟩) | ((with_reducible refine gate_callee (f := 58) rfl ?_); refine goesL_ (some 32) rfl rfl Try.func58 (by kernel_rfl) rfl #[.int .u64 a1, .int .i64 0, .int .i64 (wrap64 (8 * t179))] rfl (by (try simp only [List.map_toArray, List.map_cons, List.map_nil]); first | done | rfl | (simp only [List.length_drop, List.length_take]; rfl)) ?_; (with_reducible refine (bits_Field.calls a1 0 (wrap64 (8 * t179)) t182 _ A11.out).mono ?_); rintro e w' ⟨rfl, ⟨nd, rfl⟩⟩; refine ⟨_, rfl, ?_⟩) | ((with_reducible refine gate_callee (f := 58) rfl ?_); refine goesL_ (some 35) rfl rfl Try.func58 (by kernel_rfl) rfl #[.int .u64 a2, .int .i64 0, .int .i64 (wrap64 (8 * t179))] rfl (by (try simp only [List.map_toArray, List.map_cons, List.map_nil]); first | done | rfl | (simp only [List.length_drop, List.length_take]; rfl)) ?_; (with_reducible refine (bits_Field.calls a2 0 (wrap64 (8 * t179)) t183 _ A12.out).mono ?_); rintro e w' ⟨rfl, ⟨nd, rfl⟩⟩; refine ⟨_, rfl, ?_⟩) | ((with_reducible refine gate_callee (f := 58) rfl ?_); refine goesL_ (some 85) rfl rfl Try.func58 (by kernel_rfl) rfl #[.int .u64 (Go.bits .xor .u64 t181 t180), .int .i64 0, .int .i64 (wrap64 (8 * t179))] rfl (by (try simp only [List.map_toArray, List.map_cons, List.map_nil]); first | done | rfl | (simp only [List.length_drop, List.length_take]; rfl)) ?_; (with_reducible refine (bits_Field.calls (Go.bits .xor .u64 t181 t180) 0 (wrap64 (8 * t179)) t185 _ A16.out).mono ?_); rintro e w' ⟨rfl, ⟨nd, rfl⟩⟩; refine ⟨_, rfl, ?_⟩))
            go_ret
            exact ⟨by first | rfl | (simp [errW_none, errW_some] <;> rfl) | (simp [*, errW_none, errW_some] <;> rfl), by repeat (first | (with_reducible first | exact HB.out | apply below_alloc | apply pw_below_drewN | apply below_drew1) | exact HB.out)⟩
          · rw [if_neg c15] at H
            have c15b0 : (x8_6 == 70) = false := beq_eq_false_iff_ne.mpr c15
            have c15b1 : (x8_6 != 70) = true := bne_iff_ne.mpr c15
            by_cases c17 : x8_6 = 71
            · rw [if_pos c17] at H
              have c17b0 : (x8_6 == 71) = true := beq_iff_eq.mpr c17
              have c17b1 : (x8_6 != 71) = false := bne_eq_false_iff_eq.mpr c17
              clear c17
              replace H := Option.bind_eq_some_iff.mp H
              obtain ⟨t186, A180, H⟩ := H
              replace H : (some t186) = some r := H
              have A18 := Aside0.mk A180
              clear A180
              obtain rfl := Option.some.inj H
              go_wp2_with (first | ((with_reducible refine gate_callee (f := 48) rfl ?_); refine goesL_ (some 26) rfl rfl Try.func48 (by kernel_rfl) rfl #[.int .u64 a1, .int .i64 (wrap64 (8 * t179))] rfl (by (try simp only [List.map_toArray, List.map_cons, List.map_nil]); first | done | rfl | (simp only [List.length_drop, List.length_take]; rfl)) ?_; (with_reducible refine (bits_Sign.calls a1 (wrap64 (8 * t179)) t180 _ A9.out).mono ?_); rintro e w' ⟨rfl, ⟨nd, rfl⟩⟩; refine ⟨_, rfl, ?_⟩) | ((with_reducible refine gate_callee (f := 48) rfl ?_); refine goesL_ (some 29) rfl rfl Try.func48 (by kernel_rfl) rfl #[.int .u64 a2, .int .i64 (wrap64 (8 * t179))] rfl (by (try simp only [List.map_toArray, List.map_cons, List.map_nil]); first | done | rfl | (simp only [List.length_drop, List.length_take]; rfl)) ?_; (with_reducible refine (bits_Sign.calls a2 (wrap64 (8 * t179)) t181 _ A10.out).mono ?_); rintro e w' ⟨rfl, ⟨nd, rfl⟩⟩; refine ⟨_, rfl, ?_⟩) | ((with_reducible refine gate_callee (f := 58) rfl ?_); refine goesL_ (some 32) rfl rfl Try.func58 (by kernel_rfl) rfl #[.int .u64 a1, .int .i64 0, .int .i64 (wrap64 (8 * t179))] rfl (by (try simp only [List.map_toArray, List.map_cons, List.map_nil]); first | done | rfl | (simp only [List.length_drop, List.length_take]; rfl)) ?_; (with_reducible refine (bits_Field.calls a1 0 (wrap64 (8 * t179)) t182 _ A11.out).mono ?_); rintro e w' ⟨rfl, ⟨nd, rfl⟩⟩; refine ⟨_, rfl, ?_⟩) | ((with_reducible refine gate_callee (f := 58) rfl ?_); refine goesL_ (some 35) rfl rfl Try.func58 (by kernel_rfl) rfl #[.int .u64 a2, .int .i64 0, .int .i64 (wrap64 (8 * t179))] rfl (by (try simp only [List.map_toArray, List.map_cons, List.map_nil]); first | done | rfl | (simp only [List.length_drop, List.length_take]; rfl)) ?_; (with_reducible refine (bits_Field.calls a2 0 (wrap64 (8 * t179)) t183 _ A12.out).mono ?_); rintro e w' ⟨rfl, ⟨nd, rfl⟩⟩; refine ⟨_, rfl, ?_⟩) | ((with_reducible refine gate_callee (f := 58) rfl ?_); refine goesL_ (some 85) rfl rfl Try.func58 (by kernel_rfl) rfl #[.int .u64 (Go.bits .and .u64 t181 t180), .int .i64 0, .int .i64 (wrap64 (8 * t179))] rfl (by (try simp only [List.map_toArray, List.map_cons, List.map_nil]); first | done | rfl | (simp only [List.length_drop, List.length_take]; rfl)) ?_; (with_reducible refine (bits_Field.calls (Go.bits .and .u64 t181 t180) 0 (wrap64 (8 * t179)) t186 _ A18.out).mono ?_); rintro e w' ⟨rfl, ⟨nd, rfl⟩⟩; refine ⟨_, rfl, ?_⟩))
              go_ret
              exact ⟨by first | rfl | (simp [errW_none, errW_some] <;> rfl) | (simp [*, errW_none, errW_some] <;> rfl), by repeat (first | (with_reducible first | exact HB.out | apply below_alloc | apply pw_below_drewN | apply below_drew1) | exact HB.out)⟩
            · rw [if_neg c17] at H
              have c17b0 : (x8_6 == 71) = false := beq_eq_false_iff_ne.mpr c17
              have c17b1 : (x8_6 != 71) = true := bne_iff_ne.mpr c17
              by_cases c19 : x8_6 = 72
              · rw [if_pos c19] at H
                have c19b0 : (x8_6 == 72) = true := beq_iff_eq.mpr c19
                have c19b1 : (x8_6 != 72) = false := bne_eq_false_iff_eq.mpr c19
                clear c19
                replace H := Option.bind_eq_some_iff.mp H
                obtain ⟨t187, A200, H⟩ := H
                replace H : (some t187) = some r := H
                have A20 := Aside0.mk A200
                clear A200
                obtain rfl := Option.some.inj H
                go_wp2_with (first | ((with_reducible refine gate_callee (f := 48) rfl ?_); refine goesL_ (some 26) rfl rfl Try.func48 (by kernel_rfl) rfl #[.int .u64 a1, .int .i64 (wrap64 (8 * t179))] rfl (by (try simp only [List.map_toArray, List.map_cons, List.map_nil]); first | done | rfl | (simp only [List.length_drop, List.length_take]; rfl)) ?_; (with_reducible refine (bits_Sign.calls a1 (wrap64 (8 * t179)) t180 _ A9.out).mono ?_); rintro e w' ⟨rfl, ⟨nd, rfl⟩⟩; refine ⟨_, rfl, ?_⟩) | ((with_reducible refine gate_callee (f := 48) rfl ?_); refine goesL_ (some 29) rfl rfl Try.func48 (by kernel_rfl) rfl #[.int .u64 a2, .int .i64 (wrap64 (8 * t179))] rfl (by (try simp only [List.map_toArray, List.map_cons, List.map_nil]); first | done | rfl | (simp only [List.length_drop, List.length_take]; rfl)) ?_; (with_reducible refine (bits_Sign.calls a2 (wrap64 (8 * t179)) t181 _ A10.out).mono ?_); rintro e w' ⟨rfl, ⟨nd, rfl⟩⟩; refine ⟨_, rfl, ?_⟩) | ((with_reducible refine gate_callee (f := 58) rfl ?_); refine goesL_ (some 32) rfl rfl Try.func58 (by kernel_rfl) rfl #[.int .u64 a1, .int .i64 0, .int .i64 (wrap64 (8 * t179))] rfl (by (try simp only [List.map_toArray, List.map_cons, List.map_nil]); first | done | rfl | (simp only [List.length_drop, List.length_take]; rfl)) ?_; (with_reducible refine (bits_Field.calls a1 0 (wrap64 (8 * t179)) t182 _ A11.out).mono ?_); rintro e w' ⟨rfl, ⟨nd, rfl⟩⟩; refine ⟨_, rfl, ?_⟩) | ((with_reducible refine gate_callee (f := 58) rfl ?_); refine goesL_ (some 35) rfl rfl Try.func58 (by kernel_rfl) rfl #[.int .u64 a2, .int .i64 0, .int .i64 (wrap64 (8 * t179))] rfl (by (try simp only [List.map_toArray, List.map_cons, List.map_nil]); first | done | rfl | (simp only [List.length_drop, List.length_take]; rfl)) ?_; (with_reducible refine (bits_Field.calls a2 0 (wrap64 (8 * t179)) t183 _ A12.out).mono ?_); rintro e w' ⟨rfl, ⟨nd, rfl⟩⟩; refine ⟨_, rfl, ?_⟩) | ((with_reducible refine gate_callee (f := 58) rfl ?_); refine goesL_ (some 85) rfl rfl Try.func58 (by kernel_rfl) rfl #[.int .u64 (Go.bits .or .u64 t181 t180), .int .i64 0, .int .i64 (wrap64 (8 * t179))] rfl (by (try simp only [List.map_toArray, List.map_cons, List.map_nil]); first | done | rfl | (simp only [List.length_drop, List.length_take]; rfl)) ?_; (with_reducible refine (bits_Field.calls (Go.bits .or .u64 t181 t180) 0 (wrap64 (8 * t179)) t187 _ A20.out).mono ?_); rintro e w' ⟨rfl, ⟨nd, rfl⟩⟩; refine ⟨_, rfl, ?_⟩))
                go_ret
                exact ⟨by first | rfl | (simp [errW_none, errW_some] <;> rfl) | (simp [*, errW_none, errW_some] <;> rfl), by repeat (first | (with_reducible first | exact HB.out | apply below_alloc | apply pw_below_drewN | apply below_drew1) | exact HB.out)⟩
              · rw [if_neg c19] at H
                have c19b0 : (x8_6 == 72) = false := beq_eq_false_iff_ne.mpr c19
                have c19b1 : (x8_6 != 72) = true := bne_iff_ne.mpr c19
                by_cases c21 : x8_6 = 73
                · rw [if_pos c21] at H
                  have c21b0 : (x8_6 == 73) = true := beq_iff_eq.mpr c21
                  have c21b1 : (x8_6 != 73) = false := bne_eq_false_iff_eq.mpr c21
                  clear c21
                  obtain ⟨ji22, hji22⟩ : ∃ j_ : Int, (mn (wrap64 (t180)) (wrap64 (t181))) = j_ := ⟨_, rfl⟩
                  replace H : ((bits_Field.f (IntKind.u64.wrap (ji22)) 0 (wrap64 (8 * t179))).bind fun t188 => (some t188)) = some r := by first | (rw [hji22] at H; exact H) | (simp only [hji22] at H ⊢; exact H)
                  (try rw [hji22] at A9)
                  (try rw [hji22] at A10)
                  (try rw [hji22] at A11)
                  (try rw [hji22] at A12)
                  have hji22_ : (if (wrap64 (t181)) < (wrap64 (t180)) then (wrap64 (t181)) else (wrap64 (t180))) = ji22 := hji22
                  replace H := Option.bind_eq_some_iff.mp H
                  obtain ⟨t188, A230, H⟩ := H
                  replace H : (some t188) = some r := H
                  have A23 := Aside0.mk A230
                  clear A230
                  obtain rfl := Option.some.inj H
                  go_wp2_with (first | ((with_reducible refine gate_callee (f := 48) rfl ?_); refine goesL_ (some 26) rfl rfl Try.func48 (by kernel_rfl) rfl #[.int .u64 a1, .int .i64 (wrap64 (8 * t179))] rfl (by (try simp only [List.map_toArray, List.map_cons, List.map_nil]); first | done | rfl | (simp only [List.length_drop, List.length_take]; rfl)) ?_; (with_reducible refine (bits_Sign.calls a1 (wrap64 (8 * t179)) t180 _ A9.out).mono ?_); rintro e w' ⟨rfl, ⟨nd, rfl⟩⟩; refine ⟨_, rfl, ?_⟩) | ((with_reducible refine gate_callee (f := 48) rfl ?_); refine goesL_ (some 29) rfl rfl Try.func48 (by kernel_rfl) rfl #[.int .u64 a2, .int .i64 (wrap64 (8 * t179))] rfl (by (try simp only [List.map_toArray, List.map_cons, List.map_nil]); first | done | rfl | (simp only [List.length_drop, List.length_take]; rfl)) ?_; (with_reducible refine (bits_Sign.calls a2 (wrap64 (8 * t179)) t181 _ A10.out).mono ?_); rintro e w' ⟨rfl, ⟨nd, rfl⟩⟩; refine ⟨_, rfl, ?_⟩) | ((with_reducible refine gate_callee (f := 58) rfl ?_); refine goesL_ (some 32) rfl rfl Try.func58 (by kernel_rfl) rfl #[.int .u64 a1, .int .i64 0, .int .i64 (wrap64 (8 * t179))] rfl (by (try simp only [List.map_toArray, List.map_cons, List.map_nil]); first | done | rfl | (simp only [List.length_drop, List.length_take]; rfl)) ?_; (with_reducible refine (bits_Field.calls a1 0 (wrap64 (8 * t179)) t182 _ A11.out).mono ?_); rintro e w' ⟨rfl, ⟨nd, rfl⟩⟩; refine ⟨_, rfl, ?_⟩) | ((with_reducible refine gate_callee (f := 58) rfl ?_); refine goesL_ (some 35) rfl rfl Try.func58 (by kernel_rfl) rfl #[.int .u64 a2, .int .i64 0, .int .i64 (wrap64 (8 * t179))] rfl (by (try simp only [List.map_toArray, List.map_cons, List.map_nil]); first | done | rfl | (simp only [List.length_drop, List.length_take]; rfl)) ?_; (with_reducible refine (bits_Field.calls a2 0 (wrap64 (8 * t179)) t183 _ A12.out).mono ?_); rintro e w' ⟨rfl, ⟨nd, rfl⟩⟩; refine ⟨_, rfl, ?_⟩) | ((with_reducible refine gate_callee (f := 58) rfl ?_); refine goesL_ (some 85) rfl rfl Try.func58 (by kernel_rfl) rfl #[.int .u64 (IntKind.u64.wrap (ji22)), .int .i64 0, .int .i64 (wrap64 (8 * t179))] rfl (by (try simp only [List.map_toArray, List.map_cons, List.map_nil]); first | done | (simp only [hji22]; rfl) | rfl | (simp only [List.length_drop, List.length_take]; rfl)) ?_; (with_reducible refine (bits_Field.calls (IntKind.u64.wrap (ji22)) 0 (wrap64 (8 * t179)) t188 _ A23.out).mono ?_); rintro e w' ⟨rfl, ⟨nd, rfl⟩⟩; refine ⟨_, rfl, ?_⟩))
                  go_ret
                  exact ⟨by first | rfl | (simp [errW_none, errW_some] <;> rfl) | (simp only [← hji22]; first | rfl | (simp [errW_none, errW_some] <;> rfl)) | (simp [*, errW_none, errW_some] <;> rfl), by repeat (first | (with_reducible first | exact HB.out | apply below_alloc | apply pw_below_drewN | apply below_drew1) | exact HB.out)⟩
                · rw [if_neg c21] at H
                  have c21b0 : (x8_6 == 73) = false := beq_eq_false_iff_ne.mpr c21
                  have c21b1 : (x8_6 != 73) = true := bne_iff_ne.mpr c21
                  by_cases c24 : x8_6 = 74
                  · rw [if_pos c24] at H
                    have c24b0 : (x8_6 == 74) = true := beq_iff_eq.mpr c24
                    have c24b1 : (x8_6 != 74) = false := bne_eq_false_iff_eq.mpr c24
                    clear c24
                    obtain ⟨ji25, hji25⟩ : ∃ j_ : Int, (mx (wrap64 (t180)) (wrap64 (t181))) = j_ := ⟨_, rfl⟩
                    replace H : ((bits_Field.f (IntKind.u64.wrap (ji25)) 0 (wrap64 (8 * t179))).bind fun t189 => (some t189)) = some r := by first | (rw [hji25] at H; exact H) | (simp only [hji25] at H ⊢; exact H)
                    (try rw [hji25] at A9)
                    (try rw [hji25] at A10)
                    (try rw [hji25] at A11)
                    (try rw [hji25] at A12)
                    have hji25_ : (if (wrap64 (t180)) < (wrap64 (t181)) then (wrap64 (t181)) else (wrap64 (t180))) = ji25 := hji25
                    replace H := Option.bind_eq_some_iff.mp H
                    obtain ⟨t189, A260, H⟩ := H
                    replace H : (some t189) = some r := H
                    have A26 := Aside0.mk A260
                    clear A260
                    obtain rfl := Option.some.inj H
                    go_wp2_with (first | ((with_reducible refine gate_callee (f := 48) rfl ?_); refine goesL_ (some 26) rfl rfl Try.func48 (by kernel_rfl) rfl #[.int .u64 a1, .int .i64 (wrap64 (8 * t179))] rfl (by (try simp only [List.map_toArray, List.map_cons, List.map_nil]); first | done | rfl | (simp only [List.length_drop, List.length_take]; rfl)) ?_; (with_reducible refine (bits_Sign.calls a1 (wrap64 (8 * t179)) t180 _ A9.out).mono ?_); rintro e w' ⟨rfl, ⟨nd, rfl⟩⟩; refine ⟨_, rfl, ?_⟩) | ((with_reducible refine gate_callee (f := 48) rfl ?_); refine goesL_ (some 29) rfl rfl Try.func48 (by kernel_rfl) rfl #[.int .u64 a2, .int .i64 (wrap64 (8 * t179))] rfl (by (try simp only [List.map_toArray, List.map_cons, List.map_nil]); first | done | rfl | (simp only [List.length_drop, List.length_take]; rfl)) ?_; (with_reducible refine (bits_Sign.calls a2 (wrap64 (8 * t179)) t181 _ A10.out).mono ?_); rintro e w' ⟨rfl, ⟨nd, rfl⟩⟩; refine ⟨_, rfl, ?_⟩) | ((with_reducible refine gate_callee (f := 58) rfl ?_); refine goesL_ (some 32) rfl rfl Try.func58 (by kernel_rfl) rfl #[.int .u64 a1, .int .i64 0, .int .i64 (wrap64 (8 * t179))] rfl (by (try simp only [List.map_toArray, List.map_cons, List.map_nil]); first | done | rfl | (simp only [List.length_drop, List.length_take]; rfl)) ?_; (with_reducible refine (bits_Field.calls a1 0 (wrap64 (8 * t179)) t182 _ A11.out).mono ?_); rintro e w' ⟨rfl, ⟨nd, rfl⟩⟩; refine ⟨_, rfl, ?_⟩) | ((with_reducible refine gate_callee (f := 58) rfl ?_); refine goesL_ (some 35) rfl rfl Try.func58 (by kernel_rfl) rfl #[.int .u64 a2, .int .i64 0, .int .i64 (wrap64 (8 * t179))] rfl (by (try simp only [List.map_toArray, List.map_cons, List.map_nil]); first | done | rfl | (simp only [List.length_drop, List.length_take]; rfl)) ?_; (with_reducible refine (bits_Field.calls a2 0 (wrap64 (8 * t179)) t183 _ A12.out).mono ?_); rintro e w' ⟨rfl, ⟨nd, rfl⟩⟩; refine ⟨_, rfl, ?_⟩) | ((with_reducible refine gate_callee (f := 58) rfl ?_); refine goesL_ (some 85) rfl rfl Try.func58 (by kernel_rfl) rfl #[.int .u64 (IntKind.u64.wrap (ji25)), .int .i64 0, .int .i64 (wrap64 (8 * t179))] rfl (by (try simp only [List.map_toArray, List.map_cons, List.map_nil]); first | done | (simp only [hji25]; rfl) | rfl | (simp only [List.length_drop, List.length_take]; rfl)) ?_; (with_reducible refine (bits_Field.calls (IntKind.u64.wrap (ji25)) 0 (wrap64 (8 * t179)) t189 _ A26.out).mono ?_); rintro e w' ⟨rfl, ⟨nd, rfl⟩⟩; refine ⟨_, rfl, ?_⟩))
                    go_ret
                    exact ⟨by first | rfl | (simp [errW_none, errW_some] <;> rfl) | (simp only [← hji25]; first | rfl | (simp [errW_none, errW_some] <;> rfl)) | (simp [*, errW_none, errW_some] <;> rfl), by repeat (first | (with_reducible first | exact HB.out | apply below_alloc | apply pw_below_drewN | apply below_drew1) | exact HB.out)⟩
                  · rw [if_neg c24] at H
                    have c24b0 : (x8_6 == 74) = false := beq_eq_false_iff_ne.mpr c24
                    have c24b1 : (x8_6 != 74) = true := bne_iff_ne.mpr c24
                    by_cases c27 : x8_6 = 75
                    · rw [if_pos c27] at H
                      have c27b0 : (x8_6 == 75) = true := beq_iff_eq.mpr c27
                      have c27b1 : (x8_6 != 75) = false := bne_eq_false_iff_eq.mpr c27
                      clear c27
                      obtain ⟨ji28, hji28⟩ : ∃ j_ : Int, (mn t182 t183) = j_ := ⟨_, rfl⟩
                      replace H : ((bits_Field.f (ji28) 0 (wrap64 (8 * t179))).bind fun t190 => (some t190)) = some r := by first | (rw [hji28] at H; exact H) | (simp only [hji28] at H ⊢; exact H)
                      (try rw [hji28] at A9)
                      (try rw [hji28] at A10)
                      (try rw [hji28] at A11)
                      (try rw [hji28] at A12)
                      have hji28_ : (if t183 < t182 then t183 else t182) = ji28 := hji28
                      replace H := Option.bind_eq_some_iff.mp H
                      obtain ⟨t190, A290, H⟩ := H
                      replace H : (some t190) = some r := H
                      have A29 := Aside0.mk A290
                      clear A290
                      obtain rfl := Option.some.inj H
                      go_wp2_with (first | ((with_reducible refine gate_callee (f := 48) rfl ?_); refine goesL_ (some 26) rfl rfl Try.func48 (by kernel_rfl) rfl #[.int .u64 a1, .int .i64 (wrap64 (8 * t179))] rfl (by (try simp only [List.map_toArray, List.map_cons, List.map_nil]); first | done | rfl | (simp only [List.length_drop, List.length_take]; rfl)) ?_; (with_reducible refine (bits_Sign.calls a1 (wrap64 (8 * t179)) t180 _ A9.out).mono ?_); rintro e w' ⟨rfl, ⟨nd, rfl⟩⟩; refine ⟨_, rfl, ?_⟩) | ((with_reducible refine gate_callee (f := 48) rfl ?_); refine goesL_ (some 29) rfl rfl Try.func48 (by kernel_rfl) rfl #[.int .u64 a2, .int .i64 (wrap64 (8 * t179))] rfl (by (try simp only [List.map_toArray, List.map_cons, List.map_nil]); first | done | rfl | (simp only [List.length_drop, List.length_take]; rfl)) ?_; (with_reducible refine (bits_Sign.calls a2 (wrap64 (8 * t179)) t181 _ A10.out).mono ?_); rintro e w' ⟨rfl, ⟨nd, rfl⟩⟩; refine ⟨_, rfl, ?_⟩) | ((with_reducible refine gate_callee (f := 58) rfl ?_); refine goesL_ (some 32) rfl rfl Try.func58 (by kernel_rfl) rfl #[.int .u64 a1, .int .i64 0, .int .i64 (wrap64 (8 * t179))] rfl (by (try simp only [List.map_toArray, List.map_cons, List.map_nil]); first | done | rfl | (simp only [List.length_drop, List.length_take]; rfl)) ?_; (with_reducible refine (bits_Field.calls a1 0 (wrap64 (8 * t179)) t182 _ A11.out).mono ?_); rintro e w' ⟨rfl, ⟨nd, rfl⟩⟩; refine ⟨_, rfl, ?_⟩) | ((with_reducible refine gate_callee (f := 58) rfl ?_); refine goesL_ (some 35) rfl rfl Try.func58 (by kernel_rfl) rfl #[.int .u64 a2, .int .i64 0, .int .i64 (wrap64 (8 * t179))] rfl (by (try simp only [List.map_toArray, List.map_cons, List.map_nil]); first | done | rfl | (simp only [List.length_drop, List.length_take]; rfl)) ?_; (with_reducible refine (bits_Field.calls a2 0 (wrap64 (8 * t179)) t183 _ A12.out).mono ?_); rintro e w' ⟨rfl, ⟨nd, rfl⟩⟩; refine ⟨_, rfl, ?_⟩) | ((with_reducible refine gate_callee (f := 58) rfl ?_); refine goesL_ (some 85) rfl rfl Try.func58 (by kernel_rfl) rfl #[.int .u64 ji28, .int .i64 0, .int .i64 (wrap64 (8 * t179))] rfl (by (try simp only [List.map_toArray, List.map_cons, List.map_nil]); first | done | (simp only [hji28]; rfl) | rfl | (simp only [List.length_drop, List.length_take]; rfl)) ?_; (with_reducible refine (bits_Field.calls ji28 0 (wrap64 (8 * t179)) t190 _ A29.out).mono ?_); rintro e w' ⟨rfl, ⟨nd, rfl⟩⟩; refine ⟨_, rfl, ?_⟩))
                      go_ret
                      exact ⟨by first | rfl | (simp [errW_none, errW_some] <;> rfl) | (simp only [← hji28]; first | rfl | (simp [errW_none, errW_some] <;> rfl)) | (simp [*, errW_none, errW_some] <;> rfl), by repeat (first | (with_reducible first | exact HB.out | apply below_alloc | apply pw_below_drewN | apply below_drew1) | exact HB.out)⟩
                    · rw [if_neg c27] at H
                      have c27b0 : (x8_6 == 75) = false := beq_eq_false_iff_ne.mpr c27
                      have c27b1 : (x8_6 != 75) = true := bne_iff_ne.mpr c27
                      by_cases c30 : x8_6 = 76
                      · rw [if_pos c30] at H
                        have c30b0 : (x8_6 == 76) = true := beq_iff_eq.mpr c30
                        have c30b1 : (x8_6 != 76) = false := bne_eq_false_iff_eq.mpr c30
                        clear c30
                        obtain ⟨ji31, hji31⟩ : ∃ j_ : Int, (mx t182 t183) = j_ := ⟨_, rfl⟩
                        replace H : ((bits_Field.f (ji31) 0 (wrap64 (8 * t179))).bind fun t191 => (some t191)) = some r := by first | (rw [hji31] at H; exact H) | (simp only [hji31] at H ⊢; exact H)
                        (try rw [hji31] at A9)
                        (try rw [hji31] at A10)
                        (try rw [hji31] at A11)
                        (try rw [hji31] at A12)
                        have hji31_ : (if t182 < t183 then t183 else t182) = ji31 := hji31
                        replace H := Option.bind_eq_some_iff.mp H
                        obtain ⟨t191, A320, H⟩ := H
                        replace H : (some t191) = some r := H
                        have A32 := Aside0.mk A320
                        clear A320
                        obtain rfl := Option.some.inj H
                        go_wp2_with (first | ((with_reducible refine gate_callee (f := 48) rfl ?_); refine goesL_ (some 26) rfl rfl Try.func48 (by kernel_rfl) rfl #[.int .u64 a1, .int .i64 (wrap64 (8 * t179))] rfl (by (try simp only [List.map_toArray, List.map_cons, List.map_nil]); first | done | rfl | (simp only [List.length_drop, List.length_take]; rfl)) ?_; (with_reducible refine (bits_Sign.calls a1 (wrap64 (8 * t179)) t180 _ A9.out).mono ?_); rintro e w' ⟨rfl, ⟨nd, rfl⟩⟩; refine ⟨_, rfl, ?_⟩) | ((with_reducible refine gate_callee (f := 48) rfl ?_); refine goesL_ (some 29) rfl rfl Try.func48 (by kernel_rfl) rfl #[.int .u64 a2, .int .i64 (wrap64 (8 * t179))] rfl (by (try simp only [List.map_toArray, List.map_cons, List.map_nil]); first | done | rfl | (simp only [List.length_drop, List.length_take]; rfl)) ?_; (with_reducible refine (bits_Sign.calls a2 (wrap64 (8 * t179)) t181 _ A10.out).mono ?_); rintro e w' ⟨rfl, ⟨nd, rfl⟩⟩; refine ⟨_, rfl, ?_⟩) | ((with_reducible refine gate_callee (f := 58) rfl ?_); refine goesL_ (some 32) rfl rfl Try.func58 (by kernel_rfl) rfl #[.int .u64 a1, .int .i64 0, .int .i64 (wrap64 (8 * t179))] rfl (by (try simp only [List.map_toArray, List.map_cons, List.map_nil]); first | done | rfl | (simp only [List.length_drop, List.length_take]; rfl)) ?_; (with_reducible refine (bits_Field.calls a1 0 (wrap64 (8 * t179)) t182 _ A11.out).mono ?_); rintro e w' ⟨rfl, ⟨nd, rfl⟩⟩; refine ⟨_, rfl, ?_⟩) | ((with_reducible refine gate_callee (f := 58) rfl ?_); refine goesL_ (some 35) rfl rfl Try.func58 (by kernel_rfl) rfl #[.int .u64 a2, .int .i64 0, .int .i64 (wrap64 (8 * t179))] rfl (by (try simp only [List.map_toArray, List.map_cons, List.map_nil]); first | done | rfl | (simp only [List.length_drop, List.length_take]; rfl)) ?_; (with_reducible refine (bits_Field.calls a2 0 (wrap64 (8 * t179)) t183 _ A12.out).mono ?_); rintro e w' ⟨rfl, ⟨nd, rfl⟩⟩; refine ⟨_, rfl, ?_⟩) | ((with_reducible refine gate_callee (f := 58) rfl ?_); refine goesL_ (some 85) rfl rfl Try.func58 (by kernel_rfl) rfl #[.int .u64 ji31, .int .i64 0, .int .i64 (wrap64 (8 * t179))] rfl (by (try simp only [List.map_toArray, List.map_cons, List.map_nil]); first | done | (simp only [hji31]; rfl) | rfl | (simp only [List.length_drop, List.length_take]; rfl)) ?_; (with_reducible refine (bits_Field.calls ji31 0 (wrap64 (8 * t179)) t191 _ A32.out).mono ?_); rintro e w' ⟨rfl, ⟨nd, rfl⟩⟩; refine ⟨_, rfl, ?_⟩))
                        go_ret
                        exact ⟨by first | rfl | (simp [errW_none, errW_some] <;> rfl) | (simp only [← hji31]; first | rfl | (simp [errW_none, errW_some] <;> rfl)) | (simp [*, errW_none, errW_some] <;> rfl), by repeat (first | (with_reducible first | exact HB.out | apply below_alloc | apply pw_below_drewN | apply below_drew1) | exact HB.out)⟩
                      · rw [if_neg c30] at H
                        have c30b0 : (x8_6 == 76) = false := beq_eq_false_iff_ne.mpr c30
                        have c30b1 : (x8_6 != 76) = true := bne_iff_ne.mpr c30
                        replace H := Option.bind_eq_some_iff.mp H
                        obtain ⟨t192, A330, H⟩ := H
                        replace H : (some t192) = some r := H
                        have A33 := Aside0.mk A330
                        clear A330
                        obtain rfl := Option.some.inj H
                        go_wp2_with (first | ((with_reducible refine gate_callee (f := 48) rfl ?_); refine goesL_ (some 26) rfl rfl Try.func48 (by kernel_rfl) rfl #[.int .u64 a1, .int .i64 (wrap64 (8 * t179))] rfl (by (try simp only [List.map_toArray, List.map_cons, List.map_nil]); first | done | rfl | (simp only [List.length_drop, List.length_take]; rfl)) ?_; (with_reducible refine (bits_Sign.calls a1 (wrap64 (8 * t179)) t180 _ A9.out).mono ?_); rintro e w' ⟨rfl, ⟨nd, rfl⟩⟩; refine ⟨_, rfl, ?_⟩) | ((with_reducible refine gate_callee (f := 48) rfl ?_); refine goesL_ (some 29) rfl rfl Try.func48 (by kernel_rfl) rfl #[.int .u64 a2, .int .i64 (wrap64 (8 * t179))] rfl (by (try simp only [List.map_toArray, List.map_cons, List.map_nil]); first | done | rfl | (simp only [List.length_drop, List.length_take]; rfl)) ?_; (with_reducible refine (bits_Sign.calls a2 (wrap64 (8 * t179)) t181 _ A10.out).mono ?_); rintro e w' ⟨rfl, ⟨nd, rfl⟩⟩; refine ⟨_, rfl, ?_⟩) | ((with_reducible refine gate_callee (f := 58) rfl ?_); refine goesL_ (some 32) rfl rfl Try.func58 (by kernel_rfl) rfl #[.int .u64 a1, .int .i64 0, .int .i64 (wrap64 (8 * t179))] rfl (by (try simp only [List.map_toArray, List.map_cons, List.map_nil]); first | done | rfl | (simp only [List.length_drop, List.length_take]; rfl)) ?_; (with_reducible refine (bits_Field.calls a1 0 (wrap64 (8 * t179)) t182 _ A11.out).mono ?_); rintro e w' ⟨rfl, ⟨nd, rfl⟩⟩; refine ⟨_, rfl, ?_⟩) | ((with_reducible refine gate_callee (f := 58) rfl ?_); refine goesL_ (some 35) rfl rfl Try.func58 (by kernel_rfl) rfl #[.int .u64 a2, .int .i64 0, .int .i64 (wrap64 (8 * t179))] rfl (by (try simp only [List.map_toArray, List.map_cons, List.map_nil]); first | done | rfl | (simp only [List.length_drop, List.length_take]; rfl)) ?_; (with_reducible refine (bits_Field.calls a2 0 (wrap64 (8 * t179)) t183 _ A12.out).mono ?_); rintro e w' ⟨rfl, ⟨nd, rfl⟩⟩; refine ⟨_, rfl, ?_⟩) | ((with_reducible refine gate_callee (f := 58) rfl ?_); refine goesL_ (some 85) rfl rfl Try.func58 (by kernel_rfl) rfl #[.int .u64 t181, .int .i64 0, .int .i64 (wrap64 (8 * t179))] rfl (by (try simp only [List.map_toArray, List.map_cons, List.map_nil]); first | done | rfl | (simp only [List.length_drop, List.length_take]; rfl)) ?_; (with_reducible refine (bits_Field.calls t181 0 (wrap64 (8 * t179)) t192 _ A33.out).mono ?_); rintro e w' ⟨rfl, ⟨nd, rfl⟩⟩; refine ⟨_, rfl, ?_⟩))
                        go_ret
                        exact ⟨by first | rfl | (simp [errW_none, errW_some] <;> rfl) | (simp [*, errW_none, errW_some] <;> rfl), by repeat (first | (with_reducible first | exact HB.out | apply below_alloc | apply pw_below_drewN | apply below_drew1) | exact HB.out)⟩
  · replace c5 := Bool.eq_false_iff.mpr c5
    subst c5
    have H1 : (some 0) = some r := by rw [if_neg (show ¬ (false = true) by decide)] at H; exact H
    clear H
    have H := H1
    clear H1
    obtain rfl := Option.some.inj H
    go_enter Try.func42, Try.ntmps42
    go_wp2_with (first | ((with_reducible refine gate_callee (f := 14) rfl ?_); refine goesL_ (some 14) rfl rfl Try.func14 (by kernel_rfl) rfl #[.int .i64 a0] rfl (by (try simp only [List.map_toArray, List.map_cons, List.map_nil]); first | done | rfl | (simp only [List.length_drop, List.length_take]; rfl)) ?_; (with_reducible refine (inst_Stores.calls a0 false _ A4.out).mono ?_); rintro e w' ⟨rfl, ⟨nd, rfl⟩⟩; refine ⟨_, rfl, ?_⟩))
    go_ret
    exact ⟨by first | rfl | (simp [errW_none, errW_some] <;> rfl) | (simp [*, errW_none, errW_some] <;> rfl), by repeat (first | (with_reducible first | exact HB.out | apply below_alloc | apply pw_below_drewN | apply below_drew1) | exact HB.out)⟩

/-! ### inst_Loads0: function 43 -/
def inst_Loads0.f (a0 : Int) : Option (Bool) := if a0 ≥ 11 then (if a0 ≤ 17 then (some true) else ((inst_Atomic.f a0).bind fun t193 => (if t193 = true then (if a0 = 67 then (some false) else (some (a0 != 78))) else (some false)))) else ((inst_Atomic.f a0).bind fun t194 => (if t194 = true then (if a0 = 67 then (some false) else (some (a0 != 78))) else (some false)))
set_option maxHeartbeats 8000000 in
set_option maxRecDepth 100000 in
theorem inst_Loads0.calls (a0 : Int) (r : Bool) (w : World) (h : inst_Loads0.f a0 = some r) :
    Calls Try.prog 43 #[.int .i64 a0] w fun e w' => e = .returned (.bool r) ∧ Drawn0 w w' := by
  have H : (if a0 ≥ 11 then (if a0 ≤ 17 then (some true) else ((inst_Atomic.f a0).bind fun t193 => (if t193 = true then (if a0 = 67 then (some false) else (some (a0 != 78))) else (some false)))) else ((inst_Atomic.f a0).bind fun t194 => (if t194 = true then (if a0 = 67 then (some false) else (some (a0 != 78))) else (some false)))) = some r := h
  clear h
  by_cases c2 : a0 ≥ 11
  · rw [if_pos c2] at H
    have c2b0 : decide (11 ≤ a0) = true := decide_eq_true c2
    clear c2
    by_cases c3 : a0 ≤ 17
    · rw [if_pos c3] at H
      have c3b0 : decide (a0 ≤ 17) = true := decide_eq_true c3
      clear c3
      obtain rfl := Option.some.inj H
      go_enter Try.func43, Try.ntmps43
      go_wp2
      go_ret
      exact ⟨by first | rfl | (simp; done) | (simp [*]; done), by repeat (first | exact Drawn0.refl _ | apply Drawn0.step)⟩
    · rw [if_neg c3] at H
      have c3b0 : decide (a0 ≤ 17) = false := decide_eq_false c3
      clear c3
      replace H := Option.bind_eq_some_iff.mp H
      obtain ⟨t193, A40, H⟩ := H
      replace H : (if t193 = true then (if a0 = 67 then (some false) else (some (a0 != 78))) else (some false)) = some r := H
      have A4 := Aside0.mk A40
      clear A40
      by_cases c5 : t193 = true
      · subst c5
        have H1 : (if a0 = 67 then (some false) else (some (a0 != 78))) = some r := by rw [if_pos rfl] at H; exact H
        clear H
        have H := H1
        clear H1
        by_cases c6 : a0 = 67
        · rw [if_pos c6] at H
          have c6b0 : (a0 == 67) = true := beq_iff_eq.mpr c6
          have c6b1 : (a0 != 67) = false := bne_eq_false_iff_eq.mpr c6
          clear c6
          obtain rfl := Option.some.inj H
          go_enter Try.func43, Try.ntmps43
          go_wp2_with (first | (go_at_call 33; (with_reducible refine (inst_Atomic.calls a0 true _ A4.out).mono ?_); rintro e w' ⟨rfl, ⟨nd, rfl⟩⟩))
          go_ret
          exact ⟨by first | rfl | (simp; done) | (simp [*]; done), by repeat (first | exact Drawn0.refl _ | apply Drawn0.step)⟩
        · rw [if_neg c6] at H
          have c6b0 : (a0 == 67) = false := beq_eq_false_iff_ne.mpr c6
          have c6b1 : (a0 != 67) = true := bne_iff_ne.mpr c6
          obtain rfl := Option.some.inj H
          go_enter Try.func43, Try.ntmps43
          go_wp2_with (first | (go_at_call 33; (with_reducible refine (inst_Atomic.calls a0 true _ A4.out).mono ?_); rintro e w' ⟨rfl, ⟨nd, rfl⟩⟩))
          go_ret
          exact ⟨by first | rfl | (simp; done) | (simp [*]; done), by repeat (first | exact Drawn0.refl _ | apply Drawn0.step)⟩
      · replace c5 := Bool.eq_false_iff.mpr c5
        subst c5
        have H1 : (some false) = some r := by rw [if_neg (show ¬ (false = true) by decide)] at H; exact H
        clear H
        have H := H1
        clear H1
        obtain rfl := Option.some.inj H
        go_enter Try.func43, Try.ntmps43
        go_wp2_with (first | (go_at_call 33; (with_reducible refine (inst_Atomic.calls a0 false _ A4.out).mono ?_); rintro e w' ⟨rfl, ⟨nd, rfl⟩⟩))
        go_ret
        exact ⟨by first | rfl | (simp; done) | (simp [*]; done), by repeat (first | exact Drawn0.refl _ | apply Drawn0.step)⟩
  · rw [if_neg c2] at H
    have c2b0 : decide (11 ≤ a0) = false := decide_eq_false c2
    clear c2
    replace H := Option.bind_eq_some_iff.mp H
    obtain ⟨t194, A70, H⟩ := H
    replace H : (if t194 = true then (if a0 = 67 then (some false) else (some (a0 != 78))) else (some false)) = some r := H
    have A7 := Aside0.mk A70
    clear A70
    by_cases c8 : t194 = true
    · subst c8
      have H1 : (if a0 = 67 then (some false) else (some (a0 != 78))) = some r := by rw [if_pos rfl] at H; exact H
      clear H
      have H := H1
      clear H1
      by_cases c9 : a0 = 67
      · rw [if_pos c9] at H
        have c9b0 : (a0 == 67) = true := beq_iff_eq.mpr c9
        have c9b1 : (a0 != 67) = false := bne_eq_false_iff_eq.mpr c9
        clear c9
        obtain rfl := Option.some.inj H
        go_enter Try.func43, Try.ntmps43
        go_wp2_with (first | (go_at_call 33; (with_reducible refine (inst_Atomic.calls a0 true _ A7.out).mono ?_); rintro e w' ⟨rfl, ⟨nd, rfl⟩⟩))
        go_ret
        exact ⟨by first | rfl | (simp; done) | (simp [*]; done), by repeat (first | exact Drawn0.refl _ | apply Drawn0.step)⟩
      · rw [if_neg c9] at H
        have c9b0 : (a0 == 67) = false := beq_eq_false_iff_ne.mpr c9
        have c9b1 : (a0 != 67) = true := bne_iff_ne.mpr c9
        obtain rfl := Option.some.inj H
        go_enter Try.func43, Try.ntmps43
        go_wp2_with (first | (go_at_call 33; (with_reducible refine (inst_Atomic.calls a0 true _ A7.out).mono ?_); rintro e w' ⟨rfl, ⟨nd, rfl⟩⟩))
        go_ret
        exact ⟨by first | rfl | (simp; done) | (simp [*]; done), by repeat (first | exact Drawn0.refl _ | apply Drawn0.step)⟩
    · replace c8 := Bool.eq_false_iff.mpr c8
      subst c8
      have H1 : (some false) = some r := by rw [if_neg (show ¬ (false = true) by decide)] at H; exact H
      clear H
      have H := H1
      clear H1
      obtain rfl := Option.some.inj H
      go_enter Try.func43, Try.ntmps43
      go_wp2_with (first | (go_at_call 33; (with_reducible refine (inst_Atomic.calls a0 false _ A7.out).mono ?_); rintro e w' ⟨rfl, ⟨nd, rfl⟩⟩))
      go_ret
      exact ⟨by first | rfl | (simp; done) | (simp [*]; done), by repeat (first | exact Drawn0.refl _ | apply Drawn0.step)⟩
def inst_Loads.f (a0 : Int) : Option (Bool) := some (loadsB a0)
theorem inst_Loads.spec (a0 : Int) (r : Bool) (h : inst_Loads.f a0 = some r) : inst_Loads0.f a0 = some r := by
  rw [← h]; unfold inst_Loads.f loadsB
  by_cases h1 : 11 ≤ a0 <;> by_cases h2 : a0 ≤ 17 <;> by_cases h3 : 66 ≤ a0 <;> by_cases h4 : a0 ≤ 87 <;> by_cases h5 : a0 = 67 <;> by_cases h6 : a0 = 78 <;> first | omega | (simp [inst_Loads0.f, inst_Atomic.f, atomicB, *]; done) | (subst_vars; decide +kernel)

theorem inst_Loads.calls (a0 : Int) (r : Bool) (w : World) (h : inst_Loads.f a0 = some r) :
    Calls Try.prog 43 #[.int .i64 a0] w fun e w' => e = .returned (.bool r) ∧ Drawn0 w w' := by
  have hk := inst_Loads.spec a0 r h
  exact inst_Loads0.calls a0 r w hk

/-! ### alu_Loaded: function 44 -/
def alu_Loaded.j0 : Nat → Int → Int → Bool → Option (Int)
  | 0, _, _, _ => none
  | k + 1, x1, x5, x13 => if x13 = true then ((bits_Field.f x1 0 x5).bind fun t197 => (some t197)) else ((bits_Sign.f x1 x5).bind fun t198 => (some t198))
def alu_Loaded.f (k : Nat) (a0 : Int) (a1 : Int) : Option (Int) := (inst_Size.f a0).bind fun t195 => ((inst_Loads.f a0).bind fun t196 => (if t196 = true then (if a0 ≥ 15 then (alu_Loaded.j0 k a1 (wrap64 (8 * t195)) (decide (a0 ≤ 17))) else (alu_Loaded.j0 k a1 (wrap64 (8 * t195)) false)) else (some 0)))
theorem alu_Loaded.mono_l : ∀ k, (∀ y0 y1 y2, LeO (alu_Loaded.j0 k y0 y1 y2) (alu_Loaded.j0 (k + 1) y0 y1 y2))
  | 0 => fun _ _ _ r h => by simp [alu_Loaded.j0] at h
  | k + 1 => by
    have ih0 := alu_Loaded.mono_l k
    · intro y0 y1 y2
      unfold alu_Loaded.j0
      repeat' first
      | (with_reducible exact ih0 _ _ _)
      | (with_reducible exact LeO.refl _)
      | (with_reducible exact LeO.none _)
      | (with_reducible refine LeO.ite ?_ ?_)
      | (with_reducible refine LeO.bind ?_ (fun _ => ?_))
      | exact ih0 _ _ _
      | exact LeO.none _
      | refine LeO.ite ?_ ?_
      | refine LeO.bind ?_ (fun _ => ?_)
theorem alu_Loaded.mono : ∀ a0 a1 k, LeO (alu_Loaded.f k a0 a1) (alu_Loaded.f (k + 1) a0 a1) := by
  intro a0 a1 k
  have ih0 := alu_Loaded.mono_l k
  unfold alu_Loaded.f
  repeat' first
      | (with_reducible exact ih0 _ _ _)
      | (with_reducible exact LeO.refl _)
      | (with_reducible exact LeO.none _)
      | (with_reducible refine LeO.ite ?_ ?_)
      | (with_reducible refine LeO.bind ?_ (fun _ => ?_))
      | exact ih0 _ _ _
      | exact LeO.none _
      | refine LeO.ite ?_ ?_
      | refine LeO.bind ?_ (fun _ => ?_)
set_option maxHeartbeats 8000000 in
set_option maxRecDepth 100000 in
theorem alu_Loaded.calls (k : Nat) (a0 : Int) (a1 : Int) (r : Int) (w : World) (h : alu_Loaded.f k a0 a1 = some r) :
    Calls Try.prog 44 #[.int .i64 a0, .int .u64 a1] w fun e w' => e = .returned (.int .u64 r) ∧ Drawn0 w w' := by
  have H : ((inst_Size.f a0).bind fun t195 => ((inst_Loads.f a0).bind fun t196 => (if t196 = true then (if a0 ≥ 15 then (alu_Loaded.j0 k a1 (wrap64 (8 * t195)) (decide (a0 ≤ 17))) else (alu_Loaded.j0 k a1 (wrap64 (8 * t195)) false)) else (some 0)))) = some r := h
  clear h
  replace H := Option.bind_eq_some_iff.mp H
  obtain ⟨t195, A30, H⟩ := H
  replace H : ((inst_Loads.f a0).bind fun t196 => (if t196 = true then (if a0 ≥ 15 then (alu_Loaded.j0 k a1 (wrap64 (8 * t195)) (decide (a0 ≤ 17))) else (alu_Loaded.j0 k a1 (wrap64 (8 * t195)) false)) else (some 0))) = some r := H
  have A3 := Aside0.mk A30
  clear A30
  replace H := Option.bind_eq_some_iff.mp H
  obtain ⟨t196, A40, H⟩ := H
  replace H : (if t196 = true then (if a0 ≥ 15 then (alu_Loaded.j0 k a1 (wrap64 (8 * t195)) (decide (a0 ≤ 17))) else (alu_Loaded.j0 k a1 (wrap64 (8 * t195)) false)) else (some 0)) = some r := H
  have A4 := Aside0.mk A40
  clear A40
  by_cases c5 : t196 = true
  · subst c5
    have H1 : (if a0 ≥ 15 then (alu_Loaded.j0 k a1 (wrap64 (8 * t195)) (decide (a0 ≤ 17))) else (alu_Loaded.j0 k a1 (wrap64 (8 * t195)) false)) = some r := by rw [if_pos rfl] at H; exact H
    clear H
    have H := H1
    clear H1
    have HC6 := Aside0.mk H
    clear H
    go_enter Try.func44, Try.ntmps44
    go_upto_region 4 with (first | ((with_reducible refine gate_callee (f := 15) rfl ?_); refine goesL_ (some 7) rfl rfl Try.func15 (by kernel_rfl) rfl #[.int .i64 a0] rfl (by (try simp only [List.map_toArray, List.map_cons, List.map_nil]); first | done | rfl | (simp only [List.length_drop, List.length_take]; rfl)) ?_; (with_reducible refine (inst_Size.calls a0 t195 _ A3.out).mono ?_); rintro e w' ⟨rfl, ⟨nd, rfl⟩⟩; refine ⟨_, rfl, ?_⟩) | ((with_reducible refine gate_callee (f := 43) rfl ?_); refine goesL_ (some 11) rfl rfl Try.func43 (by kernel_rfl) rfl #[.int .i64 a0] rfl (by (try simp only [List.map_toArray, List.map_cons, List.map_nil]); first | done | rfl | (simp only [List.length_drop, List.length_take]; rfl)) ?_; (with_reducible refine (inst_Loads.calls a0 true _ A4.out).mono ?_); rintro e w' ⟨rfl, ⟨nd, rfl⟩⟩; refine ⟨_, rfl, ?_⟩))
    (try simp only [Act.put, List.setIfInBounds_toArray, List.set_cons_zero, List.set_cons_succ])
    go_cut [13] (fun v13 wc => ∃ (kq : Nat) (x13_5 : Bool), v13 = .bool x13_5 ∧ Aside0 (alu_Loaded.j0 kq a1 (wrap64 (8 * t195)) x13_5 = some r) ∧ Aside0 (kq ≤ k) ∧ Drawn0 w wc)
    case first =>
      have H := HC6.out
      clear HC6
      by_cases c7 : a0 ≥ 15
      · rw [if_pos c7] at H
        have c7b0 : decide (15 ≤ a0) = true := decide_eq_true c7
        clear c7
        (first | rw [c7b0] | (simp only [i64_w, i32_w]; rw [c7b0]) | skip)
        have H' := Aside0.mk H
        clear H
        go_wp2
        go_meet
        case rel => exact ⟨_, (decide (a0 ≤ 17)), (by first | rfl | (simp; done) | (simp [*]; done)), H', ⟨by first | omega | exact Nat.le_refl _⟩, by repeat (first | exact Drawn0.refl _ | apply Drawn0.step)⟩
      · rw [if_neg c7] at H
        have c7b0 : decide (15 ≤ a0) = false := decide_eq_false c7
        clear c7
        (first | rw [c7b0] | (simp only [i64_w, i32_w]; rw [c7b0]) | skip)
        have H' := Aside0.mk H
        clear H
        go_wp2
        go_meet
        case rel => exact ⟨_, (false), (by first | rfl | (simp; done) | (simp [*]; done)), H', ⟨by first | omega | exact Nat.le_refl _⟩, by repeat (first | exact Drawn0.refl _ | apply Drawn0.step)⟩
    case rest =>
      clear HC6
      try clear c1
      try clear p2
      try clear c4
      try clear c5
      try clear p6
      try clear c7
      try clear c7b0
      obtain ⟨kq, x13_5, rfl, HA, HJ5, ⟨mc5, rfl⟩⟩ := hcut
      cases kq with
      | zero => exact absurd HA.out (by simp [alu_Loaded.j0])
      | succ kj5 =>
        have H := HA.out
        clear HA
        simp only [alu_Loaded.j0] at H
        by_cases c8 : x13_5 = true
        · subst c8
          have H1 : ((bits_Field.f a1 0 (wrap64 (8 * t195))).bind fun t197 => (some t197)) = some r := by rw [if_pos rfl] at H; exact H
          clear H
          have H := H1
          clear H1
          replace H := Option.bind_eq_some_iff.mp H
          obtain ⟨t197, A90, H⟩ := H
          replace H : (some t197) = some r := H
          have A9 := Aside0.mk A90
          clear A90
          obtain rfl := Option.some.inj H
          go_wp2_with (first | ((with_reducible refine gate_callee (f := 58) rfl ?_); refine goesL_ (some 22) rfl rfl Try.func58 (by kernel_rfl) rfl #[.int .u64 a1, .int .i64 0, .int .i64 (wrap64 (8 * t195))] rfl (by (try simp only [List.map_toArray, List.map_cons, List.map_nil]); first | done | rfl | (simp only [List.length_drop, List.length_take]; rfl)) ?_; (with_reducible refine (bits_Field.calls a1 0 (wrap64 (8 * t195)) t197 _ A9.out).mono ?_); rintro e w' ⟨rfl, ⟨nd, rfl⟩⟩; refine ⟨_, rfl, ?_⟩))
          go_ret
          exact ⟨by first | rfl | (simp; done) | (simp [*]; done), by repeat (first | exact Drawn0.refl _ | apply Drawn0.step)⟩
        · replace c8 := Bool.eq_false_iff.mpr c8
          subst c8
          have H1 : ((bits_Sign.f a1 (wrap64 (8 * t195))).bind fun t198 => (some t198)) = some r := by rw [if_neg (show ¬ (false = true) by decide)] at H; exact H
          clear H
          have H := H1
          clear H1
          replace H := Option.bind_eq_some_iff.mp H
          obtain ⟨t198, A100, H⟩ := H
          replace H : (some t198) = some r := H
          have A10 := Aside0.mk A100
          clear A100
          obtain rfl := Option.some.inj H
          go_wp2_with (first | ((with_reducible refine gate_callee (f := 48) rfl ?_); refine goesL_ (some 25) rfl rfl Try.func48 (by kernel_rfl) rfl #[.int .u64 a1, .int .i64 (wrap64 (8 * t195))] rfl (by (try simp only [List.map_toArray, List.map_cons, List.map_nil]); first | done | rfl | (simp only [List.length_drop, List.length_take]; rfl)) ?_; (with_reducible refine (bits_Sign.calls a1 (wrap64 (8 * t195)) t198 _ A10.out).mono ?_); rintro e w' ⟨rfl, ⟨nd, rfl⟩⟩; refine ⟨_, rfl, ?_⟩))
          go_ret
          exact ⟨by first | rfl | (simp; done) | (simp [*]; done), by repeat (first | exact Drawn0.refl _ | apply Drawn0.step)⟩
  · replace c5 := Bool.eq_false_iff.mpr c5
    subst c5
    have H1 : (some 0) = some r := by rw [if_neg (show ¬ (false = true) by decide)] at H; exact H
    clear H
    have H := H1
    clear H1
    obtain rfl := Option.some.inj H
    go_enter Try.func44, Try.ntmps44
    go_wp2_with (first | ((with_reducible refine gate_callee (f := 15) rfl ?_); refine goesL_ (some 7) rfl rfl Try.func15 (by kernel_rfl) rfl #[.int .i64 a0] rfl (by (try simp only [List.map_toArray, List.map_cons, List.map_nil]); first | done | rfl | (simp only [List.length_drop, List.length_take]; rfl)) ?_; (with_reducible refine (inst_Size.calls a0 t195 _ A3.out).mono ?_); rintro e w' ⟨rfl, ⟨nd, rfl⟩⟩; refine ⟨_, rfl, ?_⟩) | ((with_reducible refine gate_callee (f := 43) rfl ?_); refine goesL_ (some 11) rfl rfl Try.func43 (by kernel_rfl) rfl #[.int .i64 a0] rfl (by (try simp only [List.map_toArray, List.map_cons, List.map_nil]); first | done | rfl | (simp only [List.length_drop, List.length_take]; rfl)) ?_; (with_reducible refine (inst_Loads.calls a0 false _ A4.out).mono ?_); rintro e w' ⟨rfl, ⟨nd, rfl⟩⟩; refine ⟨_, rfl, ?_⟩))
    go_ret
    exact ⟨by first | rfl | (simp; done) | (simp [*]; done), by repeat (first | exact Drawn0.refl _ | apply Drawn0.step)⟩

-- NOT PRINTED: function 25 (hart_touch)

/-! ### alu_imm: function 45 -/
def alu_imm.f (a0 : Int) : Option (Bool) := if a0 ≥ 22 then (if a0 ≤ 30 then (some true) else (if a0 ≥ 41 then (some (decide (a0 ≤ 44))) else (some false))) else (if a0 ≥ 41 then (some (decide (a0 ≤ 44))) else (some false))
set_option maxHeartbeats 8000000 in
set_option maxRecDepth 100000 in
theorem alu_imm.calls (a0 : Int) (r : Bool) (w : World) (h : alu_imm.f a0 = some r) :
    Calls Try.prog 45 #[.int .i64 a0] w fun e w' => e = .returned (.bool r) ∧ Drawn0 w w' := by
  have H : (if a0 ≥ 22 then (if a0 ≤ 30 then (some true) else (if a0 ≥ 41 then (some (decide (a0 ≤ 44))) else (some false))) else (if a0 ≥ 41 then (some (decide (a0 ≤ 44))) else (some false))) = some r := h
  clear h
  by_cases c2 : a0 ≥ 22
  · rw [if_pos c2] at H
    have c2b0 : decide (22 ≤ a0) = true := decide_eq_true c2
    clear c2
    by_cases c3 : a0 ≤ 30
    · rw [if_pos c3] at H
      have c3b0 : decide (a0 ≤ 30) = true := decide_eq_true c3
      clear c3
      obtain rfl := Option.some.inj H
      go_enter Try.func45, Try.ntmps45
      go_wp2
      go_ret
      exact ⟨by first | rfl | (simp; done) | (simp [*]; done), by repeat (first | exact Drawn0.refl _ | apply Drawn0.step)⟩
    · rw [if_neg c3] at H
      have c3b0 : decide (a0 ≤ 30) = false := decide_eq_false c3
      clear c3
      by_cases c4 : a0 ≥ 41
      · rw [if_pos c4] at H
        have c4b0 : decide (41 ≤ a0) = true := decide_eq_true c4
        clear c4
        obtain rfl := Option.some.inj H
        go_enter Try.func45, Try.ntmps45
        go_wp2
        go_ret
        exact ⟨by first | rfl | (simp; done) | (simp [*]; done), by repeat (first | exact Drawn0.refl _ | apply Drawn0.step)⟩
      · rw [if_neg c4] at H
        have c4b0 : decide (41 ≤ a0) = false := decide_eq_false c4
        clear c4
        obtain rfl := Option.some.inj H
        go_enter Try.func45, Try.ntmps45
        go_wp2
        go_ret
        exact ⟨by first | rfl | (simp; done) | (simp [*]; done), by repeat (first | exact Drawn0.refl _ | apply Drawn0.step)⟩
  · rw [if_neg c2] at H
    have c2b0 : decide (22 ≤ a0) = false := decide_eq_false c2
    clear c2
    by_cases c5 : a0 ≥ 41
    · rw [if_pos c5] at H
      have c5b0 : decide (41 ≤ a0) = true := decide_eq_true c5
      clear c5
      obtain rfl := Option.some.inj H
      go_enter Try.func45, Try.ntmps45
      go_wp2
      go_ret
      exact ⟨by first | rfl | (simp; done) | (simp [*]; done), by repeat (first | exact Drawn0.refl _ | apply Drawn0.step)⟩
    · rw [if_neg c5] at H
      have c5b0 : decide (41 ≤ a0) = false := decide_eq_false c5
      clear c5
      obtain rfl := Option.some.inj H
      go_enter Try.func45, Try.ntmps45
      go_wp2
      go_ret
      exact ⟨by first | rfl | (simp; done) | (simp [*]; done), by repeat (first | exact Drawn0.refl _ | apply Drawn0.step)⟩

end Go.Proofs.Ytcjfafhbohkhlaa.PAll
