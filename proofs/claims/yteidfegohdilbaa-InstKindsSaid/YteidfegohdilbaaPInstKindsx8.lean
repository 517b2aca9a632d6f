/- DERIVED. The contracts of the Go functions that one law reaches: each call returns what the plain function beside it says, under that theorem's own premises. Written by a program (hp.py) over the kit's printed words. -/
import Derived.Test.YteidfegohdilbaaPInstKindsx0
import Derived.Test.YteidfegohdilbaaPInstKindsx3
namespace Go.Proofs.Yteidfegohdilbaa.PInstKinds
open Go.RowKit Go.Proofs.YteidfegohdilbaaW.PrintWords Go.Proofs.YteidfegohdilbaaW.PrintLast Go.Proofs.YteidfegohdilbaaW.PrintMore Go.Proofs.Yteidfegohdilbaa.M
attribute [local go_sem] max2_int min2_int max_two min_two max_three min_three max_four min_four   -- for this text's walks alone
set_option linter.unusedVariables false
set_option linter.unusedSimpArgs false

/-! ### inst_Uses: function 26 -/
def usesOf (op rd rs1 rs2 imm : Int) (aq rl : Bool) : List Int := if goodOf op rd rs1 rs2 imm aq rl = true then (if 0 < rs1 then [rs1] else []) ++ (if 0 < rs2 then [rs2] else []) else []
def inst_Uses.f (a0_0 : Int) (a0_1 : Int) (a0_2 : Int) (a0_3 : Int) (a0_4 : Int) (a0_5 : Bool) (a0_6 : Bool) : Option (List Int) := if I64 a0_4 then some (usesOf a0_0 a0_1 a0_2 a0_3 a0_4 a0_5 a0_6) else none
set_option maxHeartbeats 8000000 in
theorem inst_Uses.calls (a0_0 : Int) (a0_1 : Int) (a0_2 : Int) (a0_3 : Int) (a0_4 : Int) (a0_5 : Bool) (a0_6 : Bool) (r : List Int) (w : World) (h : inst_Uses.f a0_0 a0_1 a0_2 a0_3 a0_4 a0_5 a0_6 = some r) :
    Calls Try.prog 26 #[.agg #[.int .i64 a0_0, .int .i64 a0_1, .int .i64 a0_2, .int .i64 a0_3, .int .i64 a0_4, .bool a0_5, .bool a0_6]] w fun e w' => ∃ v0_ : Value, e = .returned (v0_) ∧ Kd.R (Kd.int .i64) 3 w' w.heap.size (fun _ => True) v0_ r ∧ Below w.heap.size w w' := by
  unfold inst_Uses.f at h
  by_cases hi : I64 a0_4
  case neg => rw [if_neg hi] at h; simp at h
  rw [if_pos hi] at h
  obtain rfl := Option.some.inj h
  have hG := Lib.hid (fun (W : World) => inst_Good.calls a0_0 a0_1 a0_2 a0_3 a0_4 a0_5 a0_6 _ W (by unfold inst_Good.f; rw [if_pos hi]))
  clear hi
  by_cases hg : goodOf a0_0 a0_1 a0_2 a0_3 a0_4 a0_5 a0_6 = true
  case neg =>
    have hu : Hid (usesOf a0_0 a0_1 a0_2 a0_3 a0_4 a0_5 a0_6 = []) := by unfold usesOf; rw [if_neg hg]; rfl
    rw [hu.out]
    have hg' : goodOf a0_0 a0_1 a0_2 a0_3 a0_4 a0_5 a0_6 = false := by simpa using hg
    clear hg hu
    go_enter Try.func26, Try.ntmps26
    go_wp2_with fail
    refine (hG.out _).mono ?_
    rintro e w1 ⟨rfl, hb⟩
    have hb := Lib.hid hb
    go_wp2_with fail
    go_ret
    exact ⟨_, rfl, Kd.R_nil _ _ _ _ _, (((Below.refl _ _).alloc (Nat.le_refl _) _).trans (hb.out.mono (by simp)))⟩
  case pos =>
    have hr := goodI hg
    have hb1 := hr.rs10
    have hb2 := hr.rs20
    clear hr
    have hu : Hid (usesOf a0_0 a0_1 a0_2 a0_3 a0_4 a0_5 a0_6 = (if 0 < a0_2 then [a0_2] else []) ++ (if 0 < a0_3 then [a0_3] else [])) := by unfold usesOf; rw [if_pos hg]; rfl
    rw [hu.out]
    clear hu
    by_cases h2 : 0 < a0_2
    · by_cases h3 : 0 < a0_3
      · have hs : Hid (((if 0 < a0_2 then [a0_2] else []) ++ (if 0 < a0_3 then [a0_3] else [])) = [] ++ [a0_2] ++ [a0_3]) := by rw [if_pos h2, if_pos h3]; rfl
        rw [hs.out]; clear hs
        go_enter Try.func26, Try.ntmps26
        go_wp2_with fail
        refine (hG.out _).mono ?_
        rintro e w1 ⟨rfl, hb⟩
        have B1 := (Blk.new w _ _).below hb
        have c1 := B1.cell
        have hb := Lib.hid ((((Below.refl w.heap.size w).alloc (Nat.le_refl _) _).trans (hb.mono (by simp))))
        clear B1
        go_wp2_with fail
        clear c1
        refine wp_loop_rounds 3 ?_
        have hidx : ∀ (W : World), (Instr.index 67 (.agg #[.int .i64 a0_2, .int .i64 a0_3]) (.int .i64 0)).run Try.prog W = .ok (.int .i64 a0_2) W := fun _ => by kernel_rfl
        have hidy : ∀ (W : World), (Instr.index 67 (.agg #[.int .i64 a0_2, .int .i64 a0_3]) (.int .i64 1)).run Try.prog W = .ok (.int .i64 a0_3) W := fun _ => by kernel_rfl
        rw [rounds_succ]
        go_wp2_with ((with_reducible refine gate_builtin (b := .append) (xs := #[.tmp 18, .tmp 20]) rfl ?_); at_builtin; (refine Kd.R_append (Kd.int .i64) (w0 := w) w.heap.size rfl (.tmp 18) (.tmp 20) 41 3 (.int .i64 0) 8 rfl Try.underlying41 info3 rfl (by decide) (by omega) (Value.slice none 0 0) ([]) a0_2 [.int .i64 a0_2] (fun _ => True) (fun _ => False) rfl rfl ?aP (fun _ hk => hk.elim) ?aF ?aO ?aB ?aS ?aL ?_); (case aP => exact rfl); (case aB => exact (hb.out)); (case aF => exact (fun _ _ => trivial)); (case aO => exact (Kd.R_nil _ _ _ _ _)); (case aS => exact (hb.out).size); (case aL => simp); intro v1 w2 ho hb2 hg2 hat; have ho := Lib.hid ho; have v1b := Lib.hid hb2; clear hb2 hg2 hat)
        rw [rounds_succ]
        go_wp2_with ((with_reducible refine gate_builtin (b := .append) (xs := #[.tmp 18, .tmp 20]) rfl ?_); at_builtin; (refine Kd.R_append (Kd.int .i64) (w0 := w) w.heap.size rfl (.tmp 18) (.tmp 20) 41 3 (.int .i64 0) 8 rfl Try.underlying41 info3 rfl (by decide) (by omega) (v1) ([] ++ [a0_2]) a0_3 [.int .i64 a0_3] (fun _ => True) (fun _ => False) rfl rfl ?aP (fun _ hk => hk.elim) ?aF ?aO ?aB ?aS ?aL ?_); (case aP => exact rfl); (case aB => exact (v1b.out)); (case aF => exact (fun _ _ => trivial)); (case aO => exact (ho.out)); (case aS => exact (v1b.out).size); (case aL => simp); intro v2 w3 ho hb2 hg2 hat; have ho := Lib.hid ho; have v2b := Lib.hid hb2; clear hb2 hg2 hat)
        rw [rounds_succ]
        go_wp2
        (try go_ret)
        exact ⟨_, rfl, ho.out, v2b.out⟩
      · have hs : Hid (((if 0 < a0_2 then [a0_2] else []) ++ (if 0 < a0_3 then [a0_3] else [])) = [] ++ [a0_2]) := by rw [if_pos h2, if_neg h3]; rfl
        rw [hs.out]; clear hs
        go_enter Try.func26, Try.ntmps26
        go_wp2_with fail
        refine (hG.out _).mono ?_
        rintro e w1 ⟨rfl, hb⟩
        have B1 := (Blk.new w _ _).below hb
        have c1 := B1.cell
        have hb := Lib.hid ((((Below.refl w.heap.size w).alloc (Nat.le_refl _) _).trans (hb.mono (by simp))))
        clear B1
        go_wp2_with fail
        clear c1
        refine wp_loop_rounds 3 ?_
        have hidx : ∀ (W : World), (Instr.index 67 (.agg #[.int .i64 a0_2, .int .i64 a0_3]) (.int .i64 0)).run Try.prog W = .ok (.int .i64 a0_2) W := fun _ => by kernel_rfl
        have hidy : ∀ (W : World), (Instr.index 67 (.agg #[.int .i64 a0_2, .int .i64 a0_3]) (.int .i64 1)).run Try.prog W = .ok (.int .i64 a0_3) W := fun _ => by kernel_rfl
        rw [rounds_succ]
        go_wp2_with ((with_reducible refine gate_builtin (b := .append) (xs := #[.tmp 18, .tmp 20]) rfl ?_); at_builtin; (refine Kd.R_append (Kd.int .i64) (w0 := w) w.heap.size rfl (.tmp 18) (.tmp 20) 41 3 (.int .i64 0) 8 rfl Try.underlying41 info3 rfl (by decide) (by omega) (Value.slice none 0 0) ([]) a0_2 [.int .i64 a0_2] (fun _ => True) (fun _ => False) rfl rfl ?aP (fun _ hk => hk.elim) ?aF ?aO ?aB ?aS ?aL ?_); (case aP => exact rfl); (case aB => exact (hb.out)); (case aF => exact (fun _ _ => trivial)); (case aO => exact (Kd.R_nil _ _ _ _ _)); (case aS => exact (hb.out).size); (case aL => simp); intro v1 w2 ho hb2 hg2 hat; have ho := Lib.hid ho; have v1b := Lib.hid hb2; clear hb2 hg2 hat)
        rw [rounds_succ]
        go_wp2_with fail
        rw [rounds_succ]
        go_wp2
        (try go_ret)
        exact ⟨_, rfl, ho.out, v1b.out⟩
    · by_cases h3 : 0 < a0_3
      · have hs : Hid (((if 0 < a0_2 then [a0_2] else []) ++ (if 0 < a0_3 then [a0_3] else [])) = [] ++ [a0_3]) := by rw [if_neg h2, if_pos h3]; rfl
        rw [hs.out]; clear hs
        go_enter Try.func26, Try.ntmps26
        go_wp2_with fail
        refine (hG.out _).mono ?_
        rintro e w1 ⟨rfl, hb⟩
        have B1 := (Blk.new w _ _).below hb
        have c1 := B1.cell
        have hb := Lib.hid ((((Below.refl w.heap.size w).alloc (Nat.le_refl _) _).trans (hb.mono (by simp))))
        clear B1
        go_wp2_with fail
        clear c1
        refine wp_loop_rounds 3 ?_
        have hidx : ∀ (W : World), (Instr.index 67 (.agg #[.int .i64 a0_2, .int .i64 a0_3]) (.int .i64 0)).run Try.prog W = .ok (.int .i64 a0_2) W := fun _ => by kernel_rfl
        have hidy : ∀ (W : World), (Instr.index 67 (.agg #[.int .i64 a0_2, .int .i64 a0_3]) (.int .i64 1)).run Try.prog W = .ok (.int .i64 a0_3) W := fun _ => by kernel_rfl
        rw [rounds_succ]
        go_wp2_with fail
        rw [rounds_succ]
        go_wp2_with ((with_reducible refine gate_builtin (b := .append) (xs := #[.tmp 18, .tmp 20]) rfl ?_); at_builtin; (refine Kd.R_append (Kd.int .i64) (w0 := w) w.heap.size rfl (.tmp 18) (.tmp 20) 41 3 (.int .i64 0) 8 rfl Try.underlying41 info3 rfl (by decide) (by omega) (Value.slice none 0 0) ([]) a0_3 [.int .i64 a0_3] (fun _ => True) (fun _ => False) rfl rfl ?aP (fun _ hk => hk.elim) ?aF ?aO ?aB ?aS ?aL ?_); (case aP => exact rfl); (case aB => exact (hb.out)); (case aF => exact (fun _ _ => trivial)); (case aO => exact (Kd.R_nil _ _ _ _ _)); (case aS => exact (hb.out).size); (case aL => simp); intro v2 w3 ho hb2 hg2 hat; have ho := Lib.hid ho; have v2b := Lib.hid hb2; clear hb2 hg2 hat)
        rw [rounds_succ]
        go_wp2
        (try go_ret)
        exact ⟨_, rfl, ho.out, v2b.out⟩
      · have hs : Hid (((if 0 < a0_2 then [a0_2] else []) ++ (if 0 < a0_3 then [a0_3] else [])) = []) := by rw [if_neg h2, if_neg h3]; rfl
        rw [hs.out]; clear hs
        go_enter Try.func26, Try.ntmps26
        go_wp2_with fail
        refine (hG.out _).mono ?_
        rintro e w1 ⟨rfl, hb⟩
        have B1 := (Blk.new w _ _).below hb
        have c1 := B1.cell
        have hb := Lib.hid ((((Below.refl w.heap.size w).alloc (Nat.le_refl _) _).trans (hb.mono (by simp))))
        clear B1
        go_wp2_with fail
        clear c1
        refine wp_loop_rounds 3 ?_
        have hidx : ∀ (W : World), (Instr.index 67 (.agg #[.int .i64 a0_2, .int .i64 a0_3]) (.int .i64 0)).run Try.prog W = .ok (.int .i64 a0_2) W := fun _ => by kernel_rfl
        have hidy : ∀ (W : World), (Instr.index 67 (.agg #[.int .i64 a0_2, .int .i64 a0_3]) (.int .i64 1)).run Try.prog W = .ok (.int .i64 a0_3) W := fun _ => by kernel_rfl
        rw [rounds_succ]
        go_wp2_with fail
        rw [rounds_succ]
        go_wp2_with fail
        rw [rounds_succ]
        go_wp2
        (try go_ret)
        exact ⟨_, rfl, Kd.R_nil _ _ _ _ _, hb.out⟩


/-! ### inst_Sets: function 28 -/
def inst_Sets.f (a0_0 : Int) (a0_1 : Int) (a0_2 : Int) (a0_3 : Int) (a0_4 : Int) (a0_5 : Bool) (a0_6 : Bool) : Option (Int) := (inst_Good.f a0_0 a0_1 a0_2 a0_3 a0_4 a0_5 a0_6).bind fun t189 => (if t189 = true then (some a0_1) else (some 0))
set_option maxHeartbeats 8000000 in
set_option maxRecDepth 100000 in
theorem inst_Sets.calls (a0_0 : Int) (a0_1 : Int) (a0_2 : Int) (a0_3 : Int) (a0_4 : Int) (a0_5 : Bool) (a0_6 : Bool) (r : Int) (w : World) (h : inst_Sets.f a0_0 a0_1 a0_2 a0_3 a0_4 a0_5 a0_6 = some r) :
    Calls Try.prog 28 #[.agg #[.int .i64 a0_0, .int .i64 a0_1, .int .i64 a0_2, .int .i64 a0_3, .int .i64 a0_4, .bool a0_5, .bool a0_6]] w fun e w' => e = .returned (.int .i64 r) ∧ Below w.heap.size w w' := by
  have hu23 := Try.underlying23
  have HB := Aside0.mk (Below.refl w.heap.size w)
  have H : ((inst_Good.f a0_0 a0_1 a0_2 a0_3 a0_4 a0_5 a0_6).bind fun t189 => (if t189 = true then (some a0_1) else (some 0))) = some r := h
  clear h
  replace H := Option.bind_eq_some_iff.mp H
  obtain ⟨t189, A20, H⟩ := H
  replace H : (if t189 = true then (some a0_1) else (some 0)) = some r := H
  have A2 := Aside0.mk A20
  clear A20
  by_cases c3 : t189 = true
  · subst c3
    have H1 : (some a0_1) = some r := by rw [if_pos rfl] at H; exact H
    clear H
    have H := H1
    clear H1
    obtain rfl := Option.some.inj H
    go_enter Try.func28, Try.ntmps28
    go_wp2_with (first | ((with_reducible refine gate_dst (N := 1) rfl ?_); refine box_event ?hg (N := 1) ?hd (cs := #[.int .i64 a0_0, .int .i64 a0_1, .int .i64 a0_2, .int .i64 a0_3, .int .i64 a0_4, .bool a0_5, .bool a0_6]) (t := 23) ?hr ?_; (case hd => rfl); (case hg => rfl); (case hr => first | (go_simp; done) | (go_simp; rfl)); intro gb188 hg w4 hbox hb; have n0_ := Aside0.mk (below_step (by repeat (first | (with_reducible first | exact HB.out | apply below_alloc | apply pw_below_drewN | apply below_drew1) | exact HB.out)) hb); have n1_ := Aside0.mk (hbox); have n2_ := Aside0.mk ((by rw [hg]; exact (below_size (by repeat (first | (with_reducible first | exact HB.out | apply below_alloc | apply pw_below_drewN | apply below_drew1) | exact HB.out))) : w.heap.size ≤ gb188)); have n3_ := Aside0.mk ((by rw [hg]; exact (below_size (by repeat (first | (with_reducible first | exact HB.out | apply below_alloc | apply pw_below_drewN | apply below_drew1) | exact HB.out))) : w.heap.size ≤ gb188)); clear HB; have HB := n0_; have BK188 := n1_; have GW188 := n2_; have GE188 := n3_; clear n0_ n1_ n2_ n3_; clear hb hbox hg; have hcz5_0 : w4.cell? ⟨gb188, 0, none⟩ = some (.int .i64 a0_0) := (blk_cell BK188.out 0).trans rfl; have hcz5_1 : w4.cell? ⟨gb188, 1, none⟩ = some (.int .i64 a0_1) := (blk_cell BK188.out 1).trans rfl; have hcz5_2 : w4.cell? ⟨gb188, 2, none⟩ = some (.int .i64 a0_2) := (blk_cell BK188.out 2).trans rfl; have hcz5_3 : w4.cell? ⟨gb188, 3, none⟩ = some (.int .i64 a0_3) := (blk_cell BK188.out 3).trans rfl; have hcz5_4 : w4.cell? ⟨gb188, 4, none⟩ = some (.int .i64 a0_4) := (blk_cell BK188.out 4).trans rfl; have hcz5_5 : w4.cell? ⟨gb188, 5, none⟩ = some (.bool a0_5) := (blk_cell BK188.out 5).trans rfl; have hcz5_6 : w4.cell? ⟨gb188, 6, none⟩ = some (.bool a0_6) := (blk_cell BK188.out 6).trans rfl; have hfz5_0 := blk_frozen BK188.out 0; have hfz5_1 := blk_frozen BK188.out 1; have hfz5_2 := blk_frozen BK188.out 2; have hfz5_3 := blk_frozen BK188.out 3; have hfz5_4 := blk_frozen BK188.out 4; have hfz5_5 := blk_frozen BK188.out 5; have hfz5_6 := blk_frozen BK188.out 6) | ((with_reducible refine gate_callee (f := 12) rfl ?_); refine goesL_ (some 4) rfl rfl Try.func12 (by kernel_rfl) rfl #[.agg #[.int .i64 a0_0, .int .i64 a0_1, .int .i64 a0_2, .int .i64 a0_3, .int .i64 a0_4, .bool a0_5, .bool a0_6]] rfl (by (try simp only [List.map_toArray, List.map_cons, List.map_nil]); first | done | rfl | (simp only [List.length_drop, List.length_take]; rfl)) ?_; (with_reducible refine (inst_Good.calls a0_0 a0_1 a0_2 a0_3 a0_4 a0_5 a0_6 true _ A2.out).mono ?_); rintro e w6 ⟨rfl, hb⟩; refine ⟨_, rfl, ?_⟩; have n0_ := Aside0.mk (blk_below (g := gb188) (o := .cells #[.int .i64 a0_0, .int .i64 a0_1, .int .i64 a0_2, .int .i64 a0_3, .int .i64 a0_4, .bool a0_5, .bool a0_6] 23 (0, 0)) (by (with_reducible repeat (first | refine blk_drewN ?_ _ | refine blk_drew ?_ | refine blk_alloc ?_ _)); exact BK188.out) hb); have n1_ := Aside0.mk (below_step (by repeat (first | (with_reducible first | exact HB.out | apply below_alloc | apply pw_below_drewN | apply below_drew1 | refine below_set ?_ GE188.out) | exact HB.out)) hb); clear BK188; clear HB; have BK188 := n0_; have HB := n1_; clear n0_ n1_; (try clear hb); (try clear hb2); (try clear hk); (try clear hi); have hcz7_0 : w6.cell? ⟨gb188, 0, none⟩ = some (.int .i64 a0_0) := (blk_cell BK188.out 0).trans rfl; have hcz7_1 : w6.cell? ⟨gb188, 1, none⟩ = some (.int .i64 a0_1) := (blk_cell BK188.out 1).trans rfl; have hcz7_2 : w6.cell? ⟨gb188, 2, none⟩ = some (.int .i64 a0_2) := (blk_cell BK188.out 2).trans rfl; have hcz7_3 : w6.cell? ⟨gb188, 3, none⟩ = some (.int .i64 a0_3) := (blk_cell BK188.out 3).trans rfl; have hcz7_4 : w6.cell? ⟨gb188, 4, none⟩ = some (.int .i64 a0_4) := (blk_cell BK188.out 4).trans rfl; have hcz7_5 : w6.cell? ⟨gb188, 5, none⟩ = some (.bool a0_5) := (blk_cell BK188.out 5).trans rfl; have hcz7_6 : w6.cell? ⟨gb188, 6, none⟩ = some (.bool a0_6) := (blk_cell BK188.out 6).trans rfl; have hfz7_0 := blk_frozen BK188.out 0; have hfz7_1 := blk_frozen BK188.out 1; have hfz7_2 := blk_frozen BK188.out 2; have hfz7_3 := blk_frozen BK188.out 3; have hfz7_4 := blk_frozen BK188.out 4; have hfz7_5 := blk_frozen BK188.out 5; have hfz7_6 := blk_frozen BK188.out 6))
    go_ret
    exact ⟨by first | rfl | (simp [errW_none, errW_some] <;> rfl) | (simp [*, errW_none, errW_some] <;> rfl), by repeat (first | (with_reducible first | exact HB.out | apply below_alloc | apply pw_below_drewN | apply below_drew1 | refine below_set ?_ GE188.out) | exact HB.out)⟩
  · replace c3 := Bool.eq_false_iff.mpr c3
    subst c3
    have H1 : (some 0) = some r := by rw [if_neg (show ¬ (false = true) by decide)] at H; exact H
    clear H
    have H := H1
    clear H1
    obtain rfl := Option.some.inj H
    go_enter Try.func28, Try.ntmps28
    go_wp2_with (first | ((with_reducible refine gate_dst (N := 1) rfl ?_); refine box_event ?hg (N := 1) ?hd (cs := #[.int .i64 a0_0, .int .i64 a0_1, .int .i64 a0_2, .int .i64 a0_3, .int .i64 a0_4, .bool a0_5, .bool a0_6]) (t := 23) ?hr ?_; (case hd => rfl); (case hg => rfl); (case hr => first | (go_simp; done) | (go_simp; rfl)); intro gb188 hg w8 hbox hb; have n0_ := Aside0.mk (below_step (by repeat (first | (with_reducible first | exact HB.out | apply below_alloc | apply pw_below_drewN | apply below_drew1) | exact HB.out)) hb); have n1_ := Aside0.mk (hbox); have n2_ := Aside0.mk ((by rw [hg]; exact (below_size (by repeat (first | (with_reducible first | exact HB.out | apply below_alloc | apply pw_below_drewN | apply below_drew1) | exact HB.out))) : w.heap.size ≤ gb188)); have n3_ := Aside0.mk ((by rw [hg]; exact (below_size (by repeat (first | (with_reducible first | exact HB.out | apply below_alloc | apply pw_below_drewN | apply below_drew1) | exact HB.out))) : w.heap.size ≤ gb188)); clear HB; have HB := n0_; have BK188 := n1_; have GW188 := n2_; have GE188 := n3_; clear n0_ n1_ n2_ n3_; clear hb hbox hg; have hcz9_0 : w8.cell? ⟨gb188, 0, none⟩ = some (.int .i64 a0_0) := (blk_cell BK188.out 0).trans rfl; have hcz9_1 : w8.cell? ⟨gb188, 1, none⟩ = some (.int .i64 a0_1) := (blk_cell BK188.out 1).trans rfl; have hcz9_2 : w8.cell? ⟨gb188, 2, none⟩ = some (.int .i64 a0_2) := (blk_cell BK188.out 2).trans rfl; have hcz9_3 : w8.cell? ⟨gb188, 3, none⟩ = some (.int .i64 a0_3) := (blk_cell BK188.out 3).trans rfl; have hcz9_4 : w8.cell? ⟨gb188, 4, none⟩ = some (.int .i64 a0_4) := (blk_cell BK188.out 4).trans rfl; have hcz9_5 : w8.cell? ⟨gb188, 5, none⟩ = some (.bool a0_5) := (blk_cell BK188.out 5).trans rfl; have hcz9_6 : w8.cell? ⟨gb188, 6, none⟩ = some (.bool a0_6) := (blk_cell BK188.out 6).trans rfl; have hfz9_0 := blk_frozen BK188.out 0; have hfz9_1 := blk_frozen BK188.out 1; have hfz9_2 := blk_frozen BK188.out 2; have hfz9_3 := blk_frozen BK188.out 3; have hfz9_4 := blk_frozen BK188.out 4; have hfz9_5 := blk_frozen BK188.out 5; have hfz9_6 := blk_frozen BK188.out 6) | ((with_reducible refine gate_callee (f := 12) rfl ?_); refine goesL_ (some 4) rfl rfl Try.func12 (by kernel_rfl) rfl #[.agg #[.int .i64 a0_0, .int .i64 a0_1, .int .i64 a0_2, .int .i64 a0_3, .int .i64 a0_4, .bool a0_5, .bool a0_6]] rfl (by (try simp only [List.map_toArray, List.map_cons, List.map_nil]); first | done | rfl | (simp only [List.length_drop, List.length_take]; rfl)) ?_; (with_reducible refine (inst_Good.calls a0_0 a0_1 a0_2 a0_3 a0_4 a0_5 a0_6 false _ A2.out).mono ?_); rintro e w10 ⟨rfl, hb⟩; refine ⟨_, rfl, ?_⟩; have n0_ := Aside0.mk (blk_below (g := gb188) (o := .cells #[.int .i64 a0_0, .int .i64 a0_1, .int .i64 a0_2, .int .i64 a0_3, .int .i64 a0_4, .bool a0_5, .bool a0_6] 23 (0, 0)) (by (with_reducible repeat (first | refine blk_drewN ?_ _ | refine blk_drew ?_ | refine blk_alloc ?_ _)); exact BK188.out) hb); have n1_ := Aside0.mk (below_step (by repeat (first | (with_reducible first | exact HB.out | apply below_alloc | apply pw_below_drewN | apply below_drew1 | refine below_set ?_ GE188.out) | exact HB.out)) hb); clear BK188; clear HB; have BK188 := n0_; have HB := n1_; clear n0_ n1_; (try clear hb); (try clear hb2); (try clear hk); (try clear hi)))
    go_ret
    exact ⟨by first | rfl | (simp [errW_none, errW_some] <;> rfl) | (simp [*, errW_none, errW_some] <;> rfl), by repeat (first | (with_reducible first | exact HB.out | apply below_alloc | apply pw_below_drewN | apply below_drew1 | refine below_set ?_ GE188.out) | exact HB.out)⟩

end Go.Proofs.Yteidfegohdilbaa.PInstKinds
