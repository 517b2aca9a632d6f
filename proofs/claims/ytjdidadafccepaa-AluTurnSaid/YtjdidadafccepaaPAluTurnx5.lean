/- DERIVED. The contracts of the Go functions that one law reaches: each call returns what the plain function beside it says, under that theorem's own premises. Written by a program (hp.py) over the kit's printed words. -/
import Derived.Test.YtjdidadafccepaaPAluTurnx0
import Derived.Test.YtjdidadafccepaaPAluTurnx2
import Derived.Test.YtjdidadafccepaaPAluTurnx3
import Derived.Test.YtjdidadafccepaaPAluTurnx4
namespace Go.Proofs.Ytjdidadafccepaa.PAluTurn
open Go.RowKit Go.Proofs.YtjdidadafccepaaW.PrintWords Go.Proofs.YtjdidadafccepaaW.PrintLast Go.Proofs.YtjdidadafccepaaW.PrintMore Go.Proofs.Ytjdidadafccepaa.M
attribute [local go_sem] max2_int min2_int max_two min_two max_three min_three max_four min_four   -- for this text's walks alone
set_option linter.unusedVariables false
set_option linter.unusedSimpArgs false

/-! ### alu_two_quo0: function 60 -/
def alu_two_quo0.f (a0_0 : Int) (a0_1 : Int) (a0_2 : Int) (a1 : Bool) : Option (Int) := (alu_two_cut.f a0_0 a0_1 a0_2 a0_0 a1).bind fun t122 => ((alu_two_cut.f a0_0 a0_1 a0_2 a0_1 a1).bind fun t123 => ((bits_Quo.f t122 t123 a1).bind fun t124 => (some t124)))
def alu_two_quo0.T1 : Bool × List (List Nat × List Nat) := (true, [([], []), ([], []), ([1], [1]), ([], []), ([0, 2, 3], [0, 2, 3]), ([], []), ([], []), ([6], [6]), ([], []), ([5, 7, 8, 4], [5, 7, 8]), ([], []), ([4, 9, 10, 9], [4, 9, 10]), ([11, 11, 0, 1, 2, 3, 4, 5, 6, 7, 8, 9, 10, 11], [11])])
def alu_two_quo0.B1 : List Nat := [0, 0, 2, 0, 15, 0, 0, 64, 0, 511, 0, 2047, 4095]
theorem alu_two_quo0.tab1 : rtab .any (opsOf Try.f60 1) = alu_two_quo0.T1 := by kernel_rfl
theorem alu_two_quo0.bits1 : waitsOk alu_two_quo0.T1.2 alu_two_quo0.B1 = true := by kernel_rfl
set_option maxHeartbeats 8000000 in
set_option maxRecDepth 100000 in
theorem alu_two_quo0.calls (a0_0 : Int) (a0_1 : Int) (a0_2 : Int) (a1 : Bool) (r : Int) (w : World) (h : alu_two_quo0.f a0_0 a0_1 a0_2 a1 = some r) :
    Calls Try.prog 60 #[.agg #[.int .u64 a0_0, .int .u64 a0_1, .int .i64 a0_2], .bool a1] w fun e w' => e = .returned (.int .u64 r) ∧ Below w.heap.size w w' := by
  have hu49 := Try.underlying49
  have HB := Aside0.mk (Below.refl w.heap.size w)
  have H : ((alu_two_cut.f a0_0 a0_1 a0_2 a0_0 a1).bind fun t122 => ((alu_two_cut.f a0_0 a0_1 a0_2 a0_1 a1).bind fun t123 => ((bits_Quo.f t122 t123 a1).bind fun t124 => (some t124)))) = some r := h
  clear h
  replace H := Option.bind_eq_some_iff.mp H
  obtain ⟨t122, A30, H⟩ := H
  replace H : ((alu_two_cut.f a0_0 a0_1 a0_2 a0_1 a1).bind fun t123 => ((bits_Quo.f t122 t123 a1).bind fun t124 => (some t124))) = some r := H
  have A3 := Aside0.mk A30
  clear A30
  replace H := Option.bind_eq_some_iff.mp H
  obtain ⟨t123, A40, H⟩ := H
  replace H : ((bits_Quo.f t122 t123 a1).bind fun t124 => (some t124)) = some r := H
  have A4 := Aside0.mk A40
  clear A40
  replace H := Option.bind_eq_some_iff.mp H
  obtain ⟨t124, A50, H⟩ := H
  replace H : (some t124) = some r := H
  have A5 := Aside0.mk A50
  clear A50
  obtain rfl := Option.some.inj H
  go_enter Try.func60, Try.ntmps60
  try go_wp2_with (first | ((with_reducible refine gate_dst (N := 2) rfl ?_); refine box_event ?hg (N := 2) ?hd (cs := #[.int .u64 a0_0, .int .u64 a0_1, .int .i64 a0_2]) (t := 49) ?hr ?_; (case hd => rfl); (case hg => rfl); (case hr => first | (go_simp; done) | (go_simp; rfl)); intro gb121 hg w6 hbox hb; have n0_ := Aside0.mk (below_step (by repeat (first | (with_reducible first | exact HB.out | apply below_alloc | apply pw_below_drewN | apply below_drew1) | exact HB.out)) hb); have n1_ := Aside0.mk (hbox); have n2_ := Aside0.mk ((by rw [hg]; exact (below_size (by repeat (first | (with_reducible first | exact HB.out | apply below_alloc | apply pw_below_drewN | apply below_drew1) | exact HB.out))) : w.heap.size ≤ gb121)); have n3_ := Aside0.mk ((by rw [hg]; exact (below_size (by repeat (first | (with_reducible first | exact HB.out | apply below_alloc | apply pw_below_drewN | apply below_drew1) | exact HB.out))) : w.heap.size ≤ gb121)); clear HB; have HB := n0_; have BK121 := n1_; have GW121 := n2_; have GE121 := n3_; clear n0_ n1_ n2_ n3_; clear hb hbox hg))
  have n0_ := Aside0.mk (blk_drew BK121.out)
  have n1_ := Aside0.mk (below_drew1 HB.out)
  clear BK121
  clear HB
  have BK121 := n0_
  have HB := n1_
  clear n0_ n1_
  refine start_ (n := 13) (S := fun w' => w'.cell? ⟨gb121, 0, none⟩ = some (.int .u64 a0_0) ∧ w'.cell? ⟨gb121, 1, none⟩ = some (.int .u64 a0_1) ∧ w'.cell? ⟨gb121, 2, none⟩ = some (.int .i64 a0_2)) (ds := []) #[false, false, false, false, false, false, false, false, false, false, false, false, false] (by kernel_rfl) rfl rfl ⟨(blk_cell BK121.out 0).trans rfl, (blk_cell BK121.out 1).trans rfl, (blk_cell BK121.out 2).trans rfl⟩ (fun hHeld => ?_); refine with_tabW alu_two_quo0.tab1 alu_two_quo0.bits1 (fun HT_ HW_ => ?_)
  generalize w6.drew = w7 at BK121 HB hHeld ⊢
  refine pure_ (i := 1) (N := some 6) (v := ?_) (a' := ?_) #[false, true, false, false, false, false, false, false, false, false, false, false, false] rfl rfl (any_of HT_.out (by kernel_rfl)) (fun _ _ _ h => h) (Or.inl ⟨by rfl, ?_⟩) ?_ ?_
  rotate_left
  · intro w'
    go_simp
    with_reducible rfl
  rotate_left
  · simp only [Act.put, List.setIfInBounds_toArray, List.set_cons_zero, List.set_cons_succ, i64_w, i32_w]
    rfl
  refine pure_ (i := 3) (N := some 8) (v := ?_) (a' := ?_) #[false, true, false, true, false, false, false, false, false, false, false, false, false] rfl rfl (any_of HT_.out (by kernel_rfl)) (fun _ _ _ h => h) (Or.inl ⟨by rfl, ?_⟩) ?_ ?_
  rotate_left
  · intro w'
    go_simp
    with_reducible rfl
  rotate_left
  · simp only [Act.put, List.setIfInBounds_toArray, List.set_cons_zero, List.set_cons_succ, i64_w, i32_w]
    rfl
  refine pure_ (i := 6) (N := some 11) (v := ?_) (a' := ?_) #[false, true, false, true, false, false, true, false, false, false, false, false, false] rfl rfl (any_of HT_.out (by kernel_rfl)) (fun _ _ _ h => h) (Or.inl ⟨by rfl, ?_⟩) ?_ ?_
  rotate_left
  · intro w'
    go_simp
    with_reducible rfl
  rotate_left
  · simp only [Act.put, List.setIfInBounds_toArray, List.set_cons_zero, List.set_cons_succ, i64_w, i32_w]
    rfl
  refine pure_ (i := 8) (N := some 13) (v := ?_) (a' := ?_) #[false, true, false, true, false, false, true, false, true, false, false, false, false] rfl rfl (any_of HT_.out (by kernel_rfl)) (fun _ _ _ h => h) (Or.inl ⟨by rfl, ?_⟩) ?_ ?_
  rotate_left
  · intro w'
    go_simp
    with_reducible rfl
  rotate_left
  · simp only [Act.put, List.setIfInBounds_toArray, List.set_cons_zero, List.set_cons_succ, i64_w, i32_w]
    rfl
  refine pure_ (i := 10) (N := some 15) (v := ?_) (a' := ?_) #[false, true, false, true, false, false, true, false, true, false, true, false, false] rfl rfl (any_of HT_.out (by kernel_rfl)) (fun _ _ _ h => h) (Or.inl ⟨by rfl, ?_⟩) ?_ ?_
  rotate_left
  · intro w'
    go_simp
    with_reducible rfl
  rotate_left
  · simp only [Act.put, List.setIfInBounds_toArray, List.set_cons_zero, List.set_cons_succ, i64_w, i32_w]
    rfl
  refine take_ (i := 0) (N := some 5) (v := ?_) (a' := ?_) #[true, true, false, true, false, false, true, false, true, false, true, false, false] rfl rfl (take_ofW HT_.out HW_.out (by kernel_rfl)) (fun _ _ _ h => h) (Or.inl ⟨by rfl, ?_⟩) hHeld ?_ ?_
  rotate_left
  · rintro w' ⟨s0, s1, s2⟩
    go_simp
    with_reducible rfl
  rotate_left
  · simp only [Act.put, List.setIfInBounds_toArray, List.set_cons_zero, List.set_cons_succ, i64_w, i32_w]
    rfl
  refine take_ (i := 2) (N := some 7) (v := ?_) (a' := ?_) #[true, true, true, true, false, false, true, false, true, false, true, false, false] rfl rfl (take_ofW HT_.out HW_.out (by kernel_rfl)) (fun _ _ _ h => h) (Or.inl ⟨by rfl, ?_⟩) hHeld ?_ ?_
  rotate_left
  · rintro w' ⟨s0, s1, s2⟩
    go_simp
    with_reducible rfl
  rotate_left
  · simp only [Act.put, List.setIfInBounds_toArray, List.set_cons_zero, List.set_cons_succ, i64_w, i32_w]
    rfl
  refine take_ (i := 5) (N := some 10) (v := ?_) (a' := ?_) #[true, true, true, true, false, true, true, false, true, false, true, false, false] rfl rfl (take_ofW HT_.out HW_.out (by kernel_rfl)) (fun _ _ _ h => h) (Or.inl ⟨by rfl, ?_⟩) hHeld ?_ ?_
  rotate_left
  · rintro w' ⟨s0, s1, s2⟩
    go_simp
    with_reducible rfl
  rotate_left
  · simp only [Act.put, List.setIfInBounds_toArray, List.set_cons_zero, List.set_cons_succ, i64_w, i32_w]
    rfl
  refine take_ (i := 7) (N := some 12) (v := ?_) (a' := ?_) #[true, true, true, true, false, true, true, true, true, false, true, false, false] rfl rfl (take_ofW HT_.out HW_.out (by kernel_rfl)) (fun _ _ _ h => h) (Or.inl ⟨by rfl, ?_⟩) hHeld ?_ ?_
  rotate_left
  · rintro w' ⟨s0, s1, s2⟩
    go_simp
    with_reducible rfl
  rotate_left
  · simp only [Act.put, List.setIfInBounds_toArray, List.set_cons_zero, List.set_cons_succ, i64_w, i32_w]
    rfl
  refine one_ (i := 4) (N := some 9) #[true, true, true, true, true, true, true, true, true, false, true, false, false] rfl rfl (one_of HT_.out (by kernel_rfl)) (by decide) (fun K hK => ?_)
  refine goes_ Try.func81 (by kernel_rfl) rfl #[.agg #[.int .u64 a0_0, .int .u64 a0_1, .int .i64 a0_2], .int .u64 a0_0, .bool a1] (by rfl) rfl rfl (by (try simp only [List.map_toArray, List.map_cons, List.map_nil]); first | done | rfl | (simp only [List.length_drop, List.length_take]; rfl)) ?_
  with_reducible refine (alu_two_cut.calls a0_0 a0_1 a0_2 a0_0 a1 t122 _ A3.out).mono ?_
  rintro e w8 ⟨rfl, hb⟩
  refine ⟨_, rfl, ?_⟩
  have n0_ := Aside0.mk (blk_below (g := gb121) (o := .cells #[.int .u64 a0_0, .int .u64 a0_1, .int .i64 a0_2] 49 (0, 0)) (by (with_reducible repeat (first | refine blk_drewN ?_ _ | refine blk_drew ?_ | refine blk_alloc ?_ _)); exact BK121.out) hb)
  have n1_ := Aside0.mk (below_step (by repeat (first | (with_reducible first | exact HB.out | apply below_alloc | apply pw_below_drewN | apply below_drew1 | refine below_set ?_ GE121.out) | exact HB.out)) hb)
  clear BK121
  clear HB
  have BK121 := n0_
  have HB := n1_
  clear n0_ n1_
  (try clear hb)
  (try clear hb2)
  (try clear hk)
  (try clear hi)
  refine hK.out _ _ ⟨(blk_cell BK121.out 0).trans rfl, (blk_cell BK121.out 1).trans rfl, (blk_cell BK121.out 2).trans rfl⟩ (fun hHeld => ?_)
  clear hK K
  refine norm_ (a' := ?_) ?_ ?_
  rotate_left
  · show Act.put _ (some 9) _ = _
    simp only [Act.put, List.setIfInBounds_toArray, List.set_cons_zero, List.set_cons_succ, i64_w, i32_w]
    rfl
  refine one_ (i := 9) (N := some 14) #[true, true, true, true, true, true, true, true, true, true, true, false, false] rfl rfl (one_of HT_.out (by kernel_rfl)) (by decide) (fun K hK => ?_)
  refine goes_ Try.func81 (by kernel_rfl) rfl #[.agg #[.int .u64 a0_0, .int .u64 a0_1, .int .i64 a0_2], .int .u64 a0_1, .bool a1] (by rfl) rfl rfl (by (try simp only [List.map_toArray, List.map_cons, List.map_nil]); first | done | rfl | (simp only [List.length_drop, List.length_take]; rfl)) ?_
  with_reducible refine (alu_two_cut.calls a0_0 a0_1 a0_2 a0_1 a1 t123 _ A4.out).mono ?_
  rintro e w9 ⟨rfl, hb⟩
  refine ⟨_, rfl, ?_⟩
  have n0_ := Aside0.mk (blk_below (g := gb121) (o := .cells #[.int .u64 a0_0, .int .u64 a0_1, .int .i64 a0_2] 49 (0, 0)) (by (with_reducible repeat (first | refine blk_drewN ?_ _ | refine blk_drew ?_ | refine blk_alloc ?_ _)); exact BK121.out) hb)
  have n1_ := Aside0.mk (below_step (by repeat (first | (with_reducible first | exact HB.out | apply below_alloc | apply pw_below_drewN | apply below_drew1 | refine below_set ?_ GE121.out) | exact HB.out)) hb)
  clear BK121
  clear HB
  have BK121 := n0_
  have HB := n1_
  clear n0_ n1_
  (try clear hb)
  (try clear hb2)
  (try clear hk)
  (try clear hi)
  refine hK.out _ _ ⟨(blk_cell BK121.out 0).trans rfl, (blk_cell BK121.out 1).trans rfl, (blk_cell BK121.out 2).trans rfl⟩ (fun hHeld => ?_)
  clear hK K
  refine norm_ (a' := ?_) ?_ ?_
  rotate_left
  · show Act.put _ (some 14) _ = _
    simp only [Act.put, List.setIfInBounds_toArray, List.set_cons_zero, List.set_cons_succ, i64_w, i32_w]
    rfl
  refine one_ (i := 11) (N := some 16) #[true, true, true, true, true, true, true, true, true, true, true, true, false] rfl rfl (one_of HT_.out (by kernel_rfl)) (by decide) (fun K hK => ?_)
  refine goes_ Try.func82 (by kernel_rfl) rfl #[.int .u64 t122, .int .u64 t123, .bool a1] (by rfl) rfl rfl (by (try simp only [List.map_toArray, List.map_cons, List.map_nil]); first | done | rfl | (simp only [List.length_drop, List.length_take]; rfl)) ?_
  with_reducible refine (bits_Quo.calls t122 t123 a1 t124 _ A5.out).mono ?_
  rintro e w' ⟨rfl, ⟨nd, rfl⟩⟩
  refine ⟨_, rfl, ?_⟩
  refine hK.out _ _ ⟨(blk_cell BK121.out 0).trans rfl, (blk_cell BK121.out 1).trans rfl, (blk_cell BK121.out 2).trans rfl⟩ (fun hHeld => ?_)
  clear hK K
  refine norm_ (a' := ?_) ?_ ?_
  rotate_left
  · show Act.put _ (some 16) _ = _
    simp only [Act.put, List.setIfInBounds_toArray, List.set_cons_zero, List.set_cons_succ, i64_w, i32_w]
    rfl
  refine pure_ (i := 12) (N := some 4) (v := ?_) (a' := ?_) #[true, true, true, true, true, true, true, true, true, true, true, true, true] rfl rfl (any_of HT_.out (by kernel_rfl)) (fun _ _ _ h => h) (Or.inl ⟨by rfl, ?_⟩) ?_ ?_
  rotate_left
  · intro w'
    go_simp
    with_reducible rfl
  rotate_left
  · simp only [Act.put, List.setIfInBounds_toArray, List.set_cons_zero, List.set_cons_succ, i64_w, i32_w]
    rfl
  refine done_ (done_of HT_.out (by kernel_rfl)) ?_
  try go_wp2
  go_ret
  exact ⟨by first | rfl | (simp [errW_none, errW_some] <;> rfl) | (simp [*, errW_none, errW_some] <;> rfl), by repeat (first | (with_reducible first | exact HB.out | apply below_alloc | apply pw_below_drewN | apply below_drew1 | refine below_set ?_ GE121.out) | exact HB.out)⟩
def alu_two_quo.f (a0_0 : Int) (a0_1 : Int) (a0_2 : Int) (a1 : Bool) : Option (Int) := if U64 a0_0 ∧ U64 a0_1 then some (quoOf (cutOf a0_0 a0_2 a1) (cutOf a0_1 a0_2 a1) a1) else none
theorem alu_two_quo.spec (a0_0 a0_1 a0_2 : Int) (a1 : Bool) (r : Int) (h : alu_two_quo.f a0_0 a0_1 a0_2 a1 = some r) : alu_two_quo0.f a0_0 a0_1 a0_2 a1 = some r := by
  unfold alu_two_quo.f at h
  by_cases hc : U64 a0_0 ∧ U64 a0_1
  · rw [if_pos hc] at h; rw [← h]
    unfold alu_two_quo0.f alu_two_cut.f bits_Quo.f
    rw [if_pos hc.1, if_pos hc.2]
    simp only [Option.bind_some]
    simp [cut_range, hc.1, hc.2]
  · rw [if_neg hc] at h; simp at h

theorem alu_two_quo.calls (a0_0 : Int) (a0_1 : Int) (a0_2 : Int) (a1 : Bool) (r : Int) (w : World) (h : alu_two_quo.f a0_0 a0_1 a0_2 a1 = some r) :
    Calls Try.prog 60 #[.agg #[.int .u64 a0_0, .int .u64 a0_1, .int .i64 a0_2], .bool a1] w fun e w' => e = .returned (.int .u64 r) ∧ Below w.heap.size w w' := by
  have hk := alu_two_quo.spec a0_0 a0_1 a0_2 a1 r h
  exact alu_two_quo0.calls a0_0 a0_1 a0_2 a1 r w hk

/-! ### bits_Rem0: function 83 -/
def bits_Rem0.f (a0 : Int) (a1 : Int) (a2 : Bool) : Option (Int) := if a1 = 0 then (some a0) else ((bits_Quo.f a0 a1 a2).bind fun t125 => (some (IntKind.u64.wrap (a0 - (IntKind.u64.wrap (t125 * a1))))))
set_option maxHeartbeats 8000000 in
set_option maxRecDepth 100000 in
theorem bits_Rem0.calls (a0 : Int) (a1 : Int) (a2 : Bool) (r : Int) (w : World) (h : bits_Rem0.f a0 a1 a2 = some r) :
    Calls Try.prog 83 #[.int .u64 a0, .int .u64 a1, .bool a2] w fun e w' => e = .returned (.int .u64 r) ∧ Drawn0 w w' := by
  have H : (if a1 = 0 then (some a0) else ((bits_Quo.f a0 a1 a2).bind fun t125 => (some (IntKind.u64.wrap (a0 - (IntKind.u64.wrap (t125 * a1))))))) = some r := h
  clear h
  by_cases c4 : a1 = 0
  · rw [if_pos c4] at H
    have c4b0 : (a1 == 0) = true := beq_iff_eq.mpr c4
    have c4b1 : (a1 != 0) = false := bne_eq_false_iff_eq.mpr c4
    clear c4
    obtain rfl := Option.some.inj H
    go_enter Try.func83, Try.ntmps83
    go_wp2
    go_ret
    exact ⟨by first | rfl | (simp; done) | (simp [*]; done), by repeat (first | exact Drawn0.refl _ | apply Drawn0.step)⟩
  · rw [if_neg c4] at H
    have c4b0 : (a1 == 0) = false := beq_eq_false_iff_ne.mpr c4
    have c4b1 : (a1 != 0) = true := bne_iff_ne.mpr c4
    replace H := Option.bind_eq_some_iff.mp H
    obtain ⟨t125, A50, H⟩ := H
    replace H : (some (IntKind.u64.wrap (a0 - (IntKind.u64.wrap (t125 * a1))))) = some r := H
    have A5 := Aside0.mk A50
    clear A50
    obtain rfl := Option.some.inj H
    go_enter Try.func83, Try.ntmps83
    go_wp2_with (first | ((with_reducible refine gate_callee (f := 82) rfl ?_); refine goesL_ (some 14) rfl rfl Try.func82 (by kernel_rfl) rfl #[.int .u64 a0, .int .u64 a1, .bool a2] rfl (by (try simp only [List.map_toArray, List.map_cons, List.map_nil]); first | done | rfl | (simp only [List.length_drop, List.length_take]; rfl)) ?_; (with_reducible refine (bits_Quo.calls a0 a1 a2 t125 _ A5.out).mono ?_); rintro e w' ⟨rfl, ⟨nd, rfl⟩⟩; refine ⟨_, rfl, ?_⟩))
    go_ret
    exact ⟨by first | rfl | (simp; done) | (simp [*]; done), by repeat (first | exact Drawn0.refl _ | apply Drawn0.step)⟩
def bits_Rem.f (a0 : Int) (a1 : Int) (a2 : Bool) : Option (Int) := if U64 a0 ∧ U64 a1 then some (remOf a0 a1 a2) else none
theorem bits_Rem.spec (a0 a1 : Int) (a2 : Bool) (r : Int) (h : bits_Rem.f a0 a1 a2 = some r) : bits_Rem0.f a0 a1 a2 = some r := by
  unfold bits_Rem.f at h
  by_cases hu : U64 a0 ∧ U64 a1
  · rw [if_pos hu] at h
    obtain rfl := Option.some.inj h
    unfold bits_Rem0.f
    by_cases h0 : a1 = 0
    · rw [if_pos h0, remOf, if_pos h0]
    · rw [if_neg h0, bits_Quo.eq hu.1 hu.2]
      simp only [Option.bind_some]
      rw [rem_quo a0 a1 a2 hu.1 hu.2 h0]
  · rw [if_neg hu] at h; exact absurd h (by simp)
theorem bits_Rem.eq {a0 a1 : Int} (h : U64 a0) (h1 : U64 a1) (a2 : Bool) : bits_Rem.f a0 a1 a2 = some (remOf a0 a1 a2) := if_pos ⟨h, h1⟩


theorem bits_Rem.calls (a0 : Int) (a1 : Int) (a2 : Bool) (r : Int) (w : World) (h : bits_Rem.f a0 a1 a2 = some r) :
    Calls Try.prog 83 #[.int .u64 a0, .int .u64 a1, .bool a2] w fun e w' => e = .returned (.int .u64 r) ∧ Drawn0 w w' := by
  have hk := bits_Rem.spec a0 a1 a2 r h
  exact bits_Rem0.calls a0 a1 a2 r w hk

/-! ### alu_two_rem0: function 61 -/
def alu_two_rem0.f (a0_0 : Int) (a0_1 : Int) (a0_2 : Int) (a1 : Bool) : Option (Int) := (alu_two_cut.f a0_0 a0_1 a0_2 a0_0 a1).bind fun t127 => ((alu_two_cut.f a0_0 a0_1 a0_2 a0_1 a1).bind fun t128 => ((bits_Rem.f t127 t128 a1).bind fun t129 => (some t129)))
def alu_two_rem0.T1 : Bool × List (List Nat × List Nat) := (true, [([], []), ([], []), ([1], [1]), ([], []), ([0, 2, 3], [0, 2, 3]), ([], []), ([], []), ([6], [6]), ([], []), ([5, 7, 8, 4], [5, 7, 8]), ([], []), ([4, 9, 10, 9], [4, 9, 10]), ([11, 11, 0, 1, 2, 3, 4, 5, 6, 7, 8, 9, 10, 11], [11])])
def alu_two_rem0.B1 : List Nat := [0, 0, 2, 0, 15, 0, 0, 64, 0, 511, 0, 2047, 4095]
theorem alu_two_rem0.tab1 : rtab .any (opsOf Try.f61 1) = alu_two_rem0.T1 := by kernel_rfl
theorem alu_two_rem0.bits1 : waitsOk alu_two_rem0.T1.2 alu_two_rem0.B1 = true := by kernel_rfl
set_option maxHeartbeats 8000000 in
set_option maxRecDepth 100000 in
theorem alu_two_rem0.calls (a0_0 : Int) (a0_1 : Int) (a0_2 : Int) (a1 : Bool) (r : Int) (w : World) (h : alu_two_rem0.f a0_0 a0_1 a0_2 a1 = some r) :
    Calls Try.prog 61 #[.agg #[.int .u64 a0_0, .int .u64 a0_1, .int .i64 a0_2], .bool a1] w fun e w' => e = .returned (.int .u64 r) ∧ Below w.heap.size w w' := by
  have hu49 := Try.underlying49
  have HB := Aside0.mk (Below.refl w.heap.size w)
  have H : ((alu_two_cut.f a0_0 a0_1 a0_2 a0_0 a1).bind fun t127 => ((alu_two_cut.f a0_0 a0_1 a0_2 a0_1 a1).bind fun t128 => ((bits_Rem.f t127 t128 a1).bind fun t129 => (some t129)))) = some r := h
  clear h
  replace H := Option.bind_eq_some_iff.mp H
  obtain ⟨t127, A30, H⟩ := H
  replace H : ((alu_two_cut.f a0_0 a0_1 a0_2 a0_1 a1).bind fun t128 => ((bits_Rem.f t127 t128 a1).bind fun t129 => (some t129))) = some r := H
  have A3 := Aside0.mk A30
  clear A30
  replace H := Option.bind_eq_some_iff.mp H
  obtain ⟨t128, A40, H⟩ := H
  replace H : ((bits_Rem.f t127 t128 a1).bind fun t129 => (some t129)) = some r := H
  have A4 := Aside0.mk A40
  clear A40
  replace H := Option.bind_eq_some_iff.mp H
  obtain ⟨t129, A50, H⟩ := H
  replace H : (some t129) = some r := H
  have A5 := Aside0.mk A50
  clear A50
  obtain rfl := Option.some.inj H
  go_enter Try.func61, Try.ntmps61
  try go_wp2_with (first | ((with_reducible refine gate_dst (N := 2) rfl ?_); refine box_event ?hg (N := 2) ?hd (cs := #[.int .u64 a0_0, .int .u64 a0_1, .int .i64 a0_2]) (t := 49) ?hr ?_; (case hd => rfl); (case hg => rfl); (case hr => first | (go_simp; done) | (go_simp; rfl)); intro gb126 hg w6 hbox hb; have n0_ := Aside0.mk (below_step (by repeat (first | (with_reducible first | exact HB.out | apply below_alloc | apply pw_below_drewN | apply below_drew1) | exact HB.out)) hb); have n1_ := Aside0.mk (hbox); have n2_ := Aside0.mk ((by rw [hg]; exact (below_size (by repeat (first | (with_reducible first | exact HB.out | apply below_alloc | apply pw_below_drewN | apply below_drew1) | exact HB.out))) : w.heap.size ≤ gb126)); have n3_ := Aside0.mk ((by rw [hg]; exact (below_size (by repeat (first | (with_reducible first | exact HB.out | apply below_alloc | apply pw_below_drewN | apply below_drew1) | exact HB.out))) : w.heap.size ≤ gb126)); clear HB; have HB := n0_; have BK126 := n1_; have GW126 := n2_; have GE126 := n3_; clear n0_ n1_ n2_ n3_; clear hb hbox hg))
  have n0_ := Aside0.mk (blk_drew BK126.out)
  have n1_ := Aside0.mk (below_drew1 HB.out)
  clear BK126
  clear HB
  have BK126 := n0_
  have HB := n1_
  clear n0_ n1_
  refine start_ (n := 13) (S := fun w' => w'.cell? ⟨gb126, 0, none⟩ = some (.int .u64 a0_0) ∧ w'.cell? ⟨gb126, 1, none⟩ = some (.int .u64 a0_1) ∧ w'.cell? ⟨gb126, 2, none⟩ = some (.int .i64 a0_2)) (ds := []) #[false, false, false, false, false, false, false, false, false, false, false, false, false] (by kernel_rfl) rfl rfl ⟨(blk_cell BK126.out 0).trans rfl, (blk_cell BK126.out 1).trans rfl, (blk_cell BK126.out 2).trans rfl⟩ (fun hHeld => ?_); refine with_tabW alu_two_rem0.tab1 alu_two_rem0.bits1 (fun HT_ HW_ => ?_)
  generalize w6.drew = w7 at BK126 HB hHeld ⊢
  refine pure_ (i := 1) (N := some 6) (v := ?_) (a' := ?_) #[false, true, false, false, false, false, false, false, false, false, false, false, false] rfl rfl (any_of HT_.out (by kernel_rfl)) (fun _ _ _ h => h) (Or.inl ⟨by rfl, ?_⟩) ?_ ?_
  rotate_left
  · intro w'
    go_simp
    with_reducible rfl
  rotate_left
  · simp only [Act.put, List.setIfInBounds_toArray, List.set_cons_zero, List.set_cons_succ, i64_w, i32_w]
    rfl
  refine pure_ (i := 3) (N := some 8) (v := ?_) (a' := ?_) #[false, true, false, true, false, false, false, false, false, false, false, false, false] rfl rfl (any_of HT_.out (by kernel_rfl)) (fun _ _ _ h => h) (Or.inl ⟨by rfl, ?_⟩) ?_ ?_
  rotate_left
  · intro w'
    go_simp
    with_reducible rfl
  rotate_left
  · simp only [Act.put, List.setIfInBounds_toArray, List.set_cons_zero, List.set_cons_succ, i64_w, i32_w]
    rfl
  refine pure_ (i := 6) (N := some 11) (v := ?_) (a' := ?_) #[false, true, false, true, false, false, true, false, false, false, false, false, false] rfl rfl (any_of HT_.out (by kernel_rfl)) (fun _ _ _ h => h) (Or.inl ⟨by rfl, ?_⟩) ?_ ?_
  rotate_left
  · intro w'
    go_simp
    with_reducible rfl
  rotate_left
  · simp only [Act.put, List.setIfInBounds_toArray, List.set_cons_zero, List.set_cons_succ, i64_w, i32_w]
    rfl
  refine pure_ (i := 8) (N := some 13) (v := ?_) (a' := ?_) #[false, true, false, true, false, false, true, false, true, false, false, false, false] rfl rfl (any_of HT_.out (by kernel_rfl)) (fun _ _ _ h => h) (Or.inl ⟨by rfl, ?_⟩) ?_ ?_
  rotate_left
  · intro w'
    go_simp
    with_reducible rfl
  rotate_left
  · simp only [Act.put, List.setIfInBounds_toArray, List.set_cons_zero, List.set_cons_succ, i64_w, i32_w]
    rfl
  refine pure_ (i := 10) (N := some 15) (v := ?_) (a' := ?_) #[false, true, false, true, false, false, true, false, true, false, true, false, false] rfl rfl (any_of HT_.out (by kernel_rfl)) (fun _ _ _ h => h) (Or.inl ⟨by rfl, ?_⟩) ?_ ?_
  rotate_left
  · intro w'
    go_simp
    with_reducible rfl
  rotate_left
  · simp only [Act.put, List.setIfInBounds_toArray, List.set_cons_zero, List.set_cons_succ, i64_w, i32_w]
    rfl
  refine take_ (i := 0) (N := some 5) (v := ?_) (a' := ?_) #[true, true, false, true, false, false, true, false, true, false, true, false, false] rfl rfl (take_ofW HT_.out HW_.out (by kernel_rfl)) (fun _ _ _ h => h) (Or.inl ⟨by rfl, ?_⟩) hHeld ?_ ?_
  rotate_left
  · rintro w' ⟨s0, s1, s2⟩
    go_simp
    with_reducible rfl
  rotate_left
  · simp only [Act.put, List.setIfInBounds_toArray, List.set_cons_zero, List.set_cons_succ, i64_w, i32_w]
    rfl
  refine take_ (i := 2) (N := some 7) (v := ?_) (a' := ?_) #[true, true, true, true, false, false, true, false, true, false, true, false, false] rfl rfl (take_ofW HT_.out HW_.out (by kernel_rfl)) (fun _ _ _ h => h) (Or.inl ⟨by rfl, ?_⟩) hHeld ?_ ?_
  rotate_left
  · rintro w' ⟨s0, s1, s2⟩
    go_simp
    with_reducible rfl
  rotate_left
  · simp only [Act.put, List.setIfInBounds_toArray, List.set_cons_zero, List.set_cons_succ, i64_w, i32_w]
    rfl
  refine take_ (i := 5) (N := some 10) (v := ?_) (a' := ?_) #[true, true, true, true, false, true, true, false, true, false, true, false, false] rfl rfl (take_ofW HT_.out HW_.out (by kernel_rfl)) (fun _ _ _ h => h) (Or.inl ⟨by rfl, ?_⟩) hHeld ?_ ?_
  rotate_left
  · rintro w' ⟨s0, s1, s2⟩
    go_simp
    with_reducible rfl
  rotate_left
  · simp only [Act.put, List.setIfInBounds_toArray, List.set_cons_zero, List.set_cons_succ, i64_w, i32_w]
    rfl
  refine take_ (i := 7) (N := some 12) (v := ?_) (a' := ?_) #[true, true, true, true, false, true, true, true, true, false, true, false, false] rfl rfl (take_ofW HT_.out HW_.out (by kernel_rfl)) (fun _ _ _ h => h) (Or.inl ⟨by rfl, ?_⟩) hHeld ?_ ?_
  rotate_left
  · rintro w' ⟨s0, s1, s2⟩
    go_simp
    with_reducible rfl
  rotate_left
  · simp only [Act.put, List.setIfInBounds_toArray, List.set_cons_zero, List.set_cons_succ, i64_w, i32_w]
    rfl
  refine one_ (i := 4) (N := some 9) #[true, true, true, true, true, true, true, true, true, false, true, false, false] rfl rfl (one_of HT_.out (by kernel_rfl)) (by decide) (fun K hK => ?_)
  refine goes_ Try.func81 (by kernel_rfl) rfl #[.agg #[.int .u64 a0_0, .int .u64 a0_1, .int .i64 a0_2], .int .u64 a0_0, .bool a1] (by rfl) rfl rfl (by (try simp only [List.map_toArray, List.map_cons, List.map_nil]); first | done | rfl | (simp only [List.length_drop, List.length_take]; rfl)) ?_
  with_reducible refine (alu_two_cut.calls a0_0 a0_1 a0_2 a0_0 a1 t127 _ A3.out).mono ?_
  rintro e w8 ⟨rfl, hb⟩
  refine ⟨_, rfl, ?_⟩
  have n0_ := Aside0.mk (blk_below (g := gb126) (o := .cells #[.int .u64 a0_0, .int .u64 a0_1, .int .i64 a0_2] 49 (0, 0)) (by (with_reducible repeat (first | refine blk_drewN ?_ _ | refine blk_drew ?_ | refine blk_alloc ?_ _)); exact BK126.out) hb)
  have n1_ := Aside0.mk (below_step (by repeat (first | (with_reducible first | exact HB.out | apply below_alloc | apply pw_below_drewN | apply below_drew1 | refine below_set ?_ GE126.out) | exact HB.out)) hb)
  clear BK126
  clear HB
  have BK126 := n0_
  have HB := n1_
  clear n0_ n1_
  (try clear hb)
  (try clear hb2)
  (try clear hk)
  (try clear hi)
  refine hK.out _ _ ⟨(blk_cell BK126.out 0).trans rfl, (blk_cell BK126.out 1).trans rfl, (blk_cell BK126.out 2).trans rfl⟩ (fun hHeld => ?_)
  clear hK K
  refine norm_ (a' := ?_) ?_ ?_
  rotate_left
  · show Act.put _ (some 9) _ = _
    simp only [Act.put, List.setIfInBounds_toArray, List.set_cons_zero, List.set_cons_succ, i64_w, i32_w]
    rfl
  refine one_ (i := 9) (N := some 14) #[true, true, true, true, true, true, true, true, true, true, true, false, false] rfl rfl (one_of HT_.out (by kernel_rfl)) (by decide) (fun K hK => ?_)
  refine goes_ Try.func81 (by kernel_rfl) rfl #[.agg #[.int .u64 a0_0, .int .u64 a0_1, .int .i64 a0_2], .int .u64 a0_1, .bool a1] (by rfl) rfl rfl (by (try simp only [List.map_toArray, List.map_cons, List.map_nil]); first | done | rfl | (simp only [List.length_drop, List.length_take]; rfl)) ?_
  with_reducible refine (alu_two_cut.calls a0_0 a0_1 a0_2 a0_1 a1 t128 _ A4.out).mono ?_
  rintro e w9 ⟨rfl, hb⟩
  refine ⟨_, rfl, ?_⟩
  have n0_ := Aside0.mk (blk_below (g := gb126) (o := .cells #[.int .u64 a0_0, .int .u64 a0_1, .int .i64 a0_2] 49 (0, 0)) (by (with_reducible repeat (first | refine blk_drewN ?_ _ | refine blk_drew ?_ | refine blk_alloc ?_ _)); exact BK126.out) hb)
  have n1_ := Aside0.mk (below_step (by repeat (first | (with_reducible first | exact HB.out | apply below_alloc | apply pw_below_drewN | apply below_drew1 | refine below_set ?_ GE126.out) | exact HB.out)) hb)
  clear BK126
  clear HB
  have BK126 := n0_
  have HB := n1_
  clear n0_ n1_
  (try clear hb)
  (try clear hb2)
  (try clear hk)
  (try clear hi)
  refine hK.out _ _ ⟨(blk_cell BK126.out 0).trans rfl, (blk_cell BK126.out 1).trans rfl, (blk_cell BK126.out 2).trans rfl⟩ (fun hHeld => ?_)
  clear hK K
  refine norm_ (a' := ?_) ?_ ?_
  rotate_left
  · show Act.put _ (some 14) _ = _
    simp only [Act.put, List.setIfInBounds_toArray, List.set_cons_zero, List.set_cons_succ, i64_w, i32_w]
    rfl
  refine one_ (i := 11) (N := some 16) #[true, true, true, true, true, true, true, true, true, true, true, true, false] rfl rfl (one_of HT_.out (by kernel_rfl)) (by decide) (fun K hK => ?_)
  refine goes_ Try.func83 (by kernel_rfl) rfl #[.int .u64 t127, .int .u64 t128, .bool a1] (by rfl) rfl rfl (by (try simp only [List.map_toArray, List.map_cons, List.map_nil]); first | done | rfl | (simp only [List.length_drop, List.length_take]; rfl)) ?_
  with_reducible refine (bits_Rem.calls t127 t128 a1 t129 _ A5.out).mono ?_
  rintro e w' ⟨rfl, ⟨nd, rfl⟩⟩
  refine ⟨_, rfl, ?_⟩
  refine hK.out _ _ ⟨(blk_cell BK126.out 0).trans rfl, (blk_cell BK126.out 1).trans rfl, (blk_cell BK126.out 2).trans rfl⟩ (fun hHeld => ?_)
  clear hK K
  refine norm_ (a' := ?_) ?_ ?_
  rotate_left
  · show Act.put _ (some 16) _ = _
    simp only [Act.put, List.setIfInBounds_toArray, List.set_cons_zero, List.set_cons_succ, i64_w, i32_w]
    rfl
  refine pure_ (i := 12) (N := some 4) (v := ?_) (a' := ?_) #[true, true, true, true, true, true, true, true, true, true, true, true, true] rfl rfl (any_of HT_.out (by kernel_rfl)) (fun _ _ _ h => h) (Or.inl ⟨by rfl, ?_⟩) ?_ ?_
  rotate_left
  · intro w'
    go_simp
    with_reducible rfl
  rotate_left
  · simp only [Act.put, List.setIfInBounds_toArray, List.set_cons_zero, List.set_cons_succ, i64_w, i32_w]
    rfl
  refine done_ (done_of HT_.out (by kernel_rfl)) ?_
  try go_wp2
  go_ret
  exact ⟨by first | rfl | (simp [errW_none, errW_some] <;> rfl) | (simp [*, errW_none, errW_some] <;> rfl), by repeat (first | (with_reducible first | exact HB.out | apply below_alloc | apply pw_below_drewN | apply below_drew1 | refine below_set ?_ GE126.out) | exact HB.out)⟩
def alu_two_rem.f (a0_0 : Int) (a0_1 : Int) (a0_2 : Int) (a1 : Bool) : Option (Int) := if U64 a0_0 ∧ U64 a0_1 then some (remOf (cutOf a0_0 a0_2 a1) (cutOf a0_1 a0_2 a1) a1) else none
theorem alu_two_rem.spec (a0_0 a0_1 a0_2 : Int) (a1 : Bool) (r : Int) (h : alu_two_rem.f a0_0 a0_1 a0_2 a1 = some r) : alu_two_rem0.f a0_0 a0_1 a0_2 a1 = some r := by
  unfold alu_two_rem.f at h
  by_cases hc : U64 a0_0 ∧ U64 a0_1
  · rw [if_pos hc] at h; rw [← h]
    unfold alu_two_rem0.f alu_two_cut.f bits_Rem.f
    rw [if_pos hc.1, if_pos hc.2]
    simp only [Option.bind_some]
    simp [cut_range, hc.1, hc.2]
  · rw [if_neg hc] at h; simp at h

theorem alu_two_rem.calls (a0_0 : Int) (a0_1 : Int) (a0_2 : Int) (a1 : Bool) (r : Int) (w : World) (h : alu_two_rem.f a0_0 a0_1 a0_2 a1 = some r) :
    Calls Try.prog 61 #[.agg #[.int .u64 a0_0, .int .u64 a0_1, .int .i64 a0_2], .bool a1] w fun e w' => e = .returned (.int .u64 r) ∧ Below w.heap.size w w' := by
  have hk := alu_two_rem.spec a0_0 a0_1 a0_2 a1 r h
  exact alu_two_rem0.calls a0_0 a0_1 a0_2 a1 r w hk

/-! ### alu_two_sized: function 30 -/
def sizedOf (op a c n : Int) : Int × Bool :=
  if op = 22 ∨ op = 41 ∨ op = 45 ∨ op = 31 then (IntKind.u64.wrap (a + c), true)
  else if op = 32 ∨ op = 46 then (IntKind.u64.wrap (a - c), true)
  else if op = 33 ∨ op = 28 ∨ op = 47 ∨ op = 42 then (IntKind.u64.wrap (a * 2 ^ (c % n).toNat), true)
  else if op = 37 ∨ op = 29 ∨ op = 48 ∨ op = 43 then (rightOf a c n false, true)
  else if op = 38 ∨ op = 30 ∨ op = 49 ∨ op = 44 then (rightOf a c n true, true)
  else if op = 53 ∨ op = 61 then (IntKind.u64.wrap (a * c), true)
  else if op = 57 ∨ op = 62 then (quoOf (cutOf a n true) (cutOf c n true) true, true)
  else if op = 58 ∨ op = 63 then (quoOf (cutOf a n false) (cutOf c n false) false, true)
  else if op = 59 ∨ op = 64 then (remOf (cutOf a n true) (cutOf c n true) true, true)
  else if op = 60 ∨ op = 65 then (remOf (cutOf a n false) (cutOf c n false) false, true)
  else (0, false)
def alu_two_sized.f (a0_0 : Int) (a0_1 : Int) (a0_2 : Int) (a1 : Int) : Option (Int × Bool) := if U64 a0_0 ∧ U64 a0_1 ∧ (a0_2 = 64 ∨ a0_2 = 32) then some (sizedOf a1 a0_0 a0_1 a0_2) else none
theorem sized_ret {op a c n : Int} {r : Int} {b : Bool} (h : sizedOf op a c n = (r, b)) : Ending.returned (.tuple #[.int .u64 r, .bool b]) = .returned (.tuple #[.int .u64 (sizedOf op a c n).1, .bool (sizedOf op a c n).2]) := by rw [h]
set_option maxHeartbeats 4000000 in
theorem alu_two_sized.c (a c n op : Int) (w : World) (hc : U64 a ∧ U64 c ∧ (n = 64 ∨ n = 32)) :
    Calls Try.prog 30 #[.agg #[.int .u64 a, .int .u64 c, .int .i64 n], .int .i64 op] w fun e w' => e = .returned (.tuple #[.int .u64 (sizedOf op a c n).1, .bool (sizedOf op a c n).2]) ∧ Below w.heap.size w w' := by
  have h1 := Lib.hid (fun W => alu_two_sum.calls a c n _ W rfl)
  have h2 := Lib.hid (fun W => alu_two_less.calls a c n _ W rfl)
  have h3 := Lib.hid (fun W => alu_two_left.calls a c n _ W (by unfold alu_two_left.f; rw [if_pos hc.2]))
  have h4 := Lib.hid (fun s W => alu_two_right.calls a c n s _ W (by unfold alu_two_right.f; rw [if_pos hc]))
  have h5 := Lib.hid (fun s W => alu_two_quo.calls a c n s _ W (by unfold alu_two_quo.f; rw [if_pos ⟨hc.1, hc.2.1⟩]))
  have h6 := Lib.hid (fun s W => alu_two_rem.calls a c n s _ W (by unfold alu_two_rem.f; rw [if_pos ⟨hc.1, hc.2.1⟩]))
  clear hc
  go_enter Try.func30, Try.ntmps30
  go_wp2_with (first | (go_at_call 56; refine (h1.out _).mono ?_; rintro e w1 ⟨rfl, hd⟩; have hd := Lib.hid hd) | (go_at_call 57; refine (h2.out _).mono ?_; rintro e w1 ⟨rfl, hd⟩; have hd := Lib.hid hd) | (go_at_call 58; refine (h3.out _).mono ?_; rintro e w1 ⟨rfl, hd⟩; have hd := Lib.hid hd) | (go_at_call 59; refine (h4.out _ _).mono ?_; rintro e w1 ⟨rfl, hd⟩; have hd := Lib.hid hd) | (go_at_call 60; refine (h5.out _ _).mono ?_; rintro e w1 ⟨rfl, hd⟩; have hd := Lib.hid hd) | (go_at_call 61; refine (h6.out _ _).mono ?_; rintro e w1 ⟨rfl, hd⟩; have hd := Lib.hid hd))
  all_goals go_ret2
  all_goals (refine ⟨sized_ret ?_, ?_⟩)
  all_goals (try (first | exact ((Below.refl _ _).alloc (Nat.le_refl _) _).trans (hd.out.mono (by simp)) | (go_grown; done)))
  all_goals simp only [beq_iff_eq, beq_eq_false_iff_ne, ne_eq] at *
  all_goals simp [sizedOf, *]
theorem alu_two_sized.calls (a0_0 : Int) (a0_1 : Int) (a0_2 : Int) (a1 : Int) (r1 : Int) (r2 : Bool) (w : World) (h : alu_two_sized.f a0_0 a0_1 a0_2 a1 = some (r1, r2)) :
    Calls Try.prog 30 #[.agg #[.int .u64 a0_0, .int .u64 a0_1, .int .i64 a0_2], .int .i64 a1] w fun e w' => e = .returned (.tuple #[.int .u64 r1, .bool r2]) ∧ Below w.heap.size w w' := by
  unfold alu_two_sized.f at h
  by_cases hc : U64 a0_0 ∧ U64 a0_1 ∧ (a0_2 = 64 ∨ a0_2 = 32)
  case neg => rw [if_neg hc] at h; simp at h
  rw [if_pos hc] at h
  have e := Option.some.inj h
  refine (alu_two_sized.c a0_0 a0_1 a0_2 a1 w hc).mono ?_
  rintro e2 w' ⟨rfl, hb⟩
  rw [e]
  exact ⟨rfl, hb⟩


/-! ### alu_one: function 62 -/
def alu_one.f (a0 : Bool) : Option (Int) := if a0 = true then (some 1) else (some 0)
set_option maxHeartbeats 8000000 in
set_option maxRecDepth 100000 in
theorem alu_one.calls (a0 : Bool) (r : Int) (w : World) (h : alu_one.f a0 = some r) :
    Calls Try.prog 62 #[.bool a0] w fun e w' => e = .returned (.int .u64 r) ∧ Drawn0 w w' := by
  have H : (if a0 = true then (some 1) else (some 0)) = some r := h
  clear h
  by_cases c2 : a0 = true
  · subst c2
    have H1 : (some 1) = some r := by rw [if_pos rfl] at H; exact H
    clear H
    have H := H1
    clear H1
    obtain rfl := Option.some.inj H
    go_enter Try.func62, Try.ntmps62
    go_wp2
    go_ret
    exact ⟨by first | rfl | (simp; done) | (simp [*]; done), by repeat (first | exact Drawn0.refl _ | apply Drawn0.step)⟩
  · replace c2 := Bool.eq_false_iff.mpr c2
    subst c2
    have H1 : (some 0) = some r := by rw [if_neg (show ¬ (false = true) by decide)] at H; exact H
    clear H
    have H := H1
    clear H1
    obtain rfl := Option.some.inj H
    go_enter Try.func62, Try.ntmps62
    go_wp2
    go_ret
    exact ⟨by first | rfl | (simp; done) | (simp [*]; done), by repeat (first | exact Drawn0.refl _ | apply Drawn0.step)⟩

/-! ### bits_High: function 63 -/
def bits_High.f (a0 : Int) (a1 : Int) (a2 : Bool) (a3 : Bool) : Option (Int) := if U64 a0 ∧ U64 a1 then some (hiOf a0 a1 a2 a3) else none
theorem and_low (a : Int) (h0 : 0 ≤ a) (h1 : a ≤ 18446744073709551615) : Go.bits .and .u64 a 4294967295 = a % 4294967296 := by
  have h := bits_mask .u64 64 (by decide) (fun n h0 h1 => by rw [IntKind.wrap_u64]; omega) 32 (by decide) a h0 (by omega)
  simpa using h
theorem hi_parts (a b : Int) (ha0 : 0 ≤ a) (ha : a ≤ 18446744073709551615) (hb0 : 0 ≤ b) (hb : b ≤ 18446744073709551615) :
    IntKind.u64.wrap (IntKind.u64.wrap (IntKind.u64.wrap (IntKind.u64.wrap (a / 4294967296 * (b / 4294967296)) + IntKind.u64.wrap (Go.bits .and .u64 a 4294967295 * (b / 4294967296)) / 4294967296) + IntKind.u64.wrap (a / 4294967296 * Go.bits .and .u64 b 4294967295) / 4294967296) +
      IntKind.u64.wrap (IntKind.u64.wrap (IntKind.u64.wrap (Go.bits .and .u64 a 4294967295 * Go.bits .and .u64 b 4294967295) / 4294967296 + Go.bits .and .u64 (IntKind.u64.wrap (Go.bits .and .u64 a 4294967295 * (b / 4294967296))) 4294967295) + Go.bits .and .u64 (IntKind.u64.wrap (a / 4294967296 * Go.bits .and .u64 b 4294967295)) 4294967295) / 4294967296) = a * b / 18446744073709551616 := by
  rw [and_low a ha0 ha, and_low b hb0 hb]
  obtain ⟨ah, al, rfl, h1, h2, h3, h4⟩ : ∃ ah al : Int, a = ah * 4294967296 + al ∧ 0 ≤ ah ∧ ah ≤ 4294967295 ∧ 0 ≤ al ∧ al ≤ 4294967295 := ⟨a / 4294967296, a % 4294967296, by omega, by omega, by omega, by omega, by omega⟩
  obtain ⟨bh, bl, rfl, h5, h6, h7, h8⟩ : ∃ bh bl : Int, b = bh * 4294967296 + bl ∧ 0 ≤ bh ∧ bh ≤ 4294967295 ∧ 0 ≤ bl ∧ bl ≤ 4294967295 := ⟨b / 4294967296, b % 4294967296, by omega, by omega, by omega, by omega, by omega⟩
  have e1 : (ah * 4294967296 + al) / 4294967296 = ah := by omega
  have e2 : (ah * 4294967296 + al) % 4294967296 = al := by omega
  have e3 : (bh * 4294967296 + bl) / 4294967296 = bh := by omega
  have e4 : (bh * 4294967296 + bl) % 4294967296 = bl := by omega
  rw [e1, e2, e3, e4]
  clear e1 e2 e3 e4
  have bd : ∀ x y : Int, 0 ≤ x → x ≤ 4294967295 → 0 ≤ y → y ≤ 4294967295 → 0 ≤ x * y ∧ x * y ≤ 18446744065119617025 := fun x y p q r s => ⟨Int.mul_nonneg p r, by have := Int.mul_le_mul q s r (by decide : (0 : Int) ≤ 4294967295); omega⟩
  have q0 := bd al bl h3 h4 h7 h8
  have q1 := bd al bh h3 h4 h5 h6
  have q2 := bd ah bl h1 h2 h7 h8
  have q3 := bd ah bh h1 h2 h5 h6
  have e : (ah * 4294967296 + al) * (bh * 4294967296 + bl) = ah * bh * 18446744073709551616 + (al * bh + ah * bl) * 4294967296 + al * bl := by
    have x1 : ah * 4294967296 * (bh * 4294967296) = ah * bh * 18446744073709551616 := by rw [← Int.mul_assoc, Int.mul_right_comm ah, Int.mul_assoc (ah * bh)]; rfl
    have x2 : ah * 4294967296 * bl = ah * bl * 4294967296 := by rw [Int.mul_right_comm]
    have x3 : al * (bh * 4294967296) = al * bh * 4294967296 := by rw [Int.mul_assoc]
    rw [Int.add_mul, Int.mul_add, Int.mul_add, x1, x2, x3]; omega
  rw [e]
  generalize al * bl = p0 at *
  generalize al * bh = p1 at *
  generalize ah * bl = p2 at *
  generalize ah * bh = p3 at *
  clear bd e h1 h2 h3 h4 h5 h6 h7 h8
  rw [and_low _ (by rw [IntKind.wrap_u64]; omega) (by rw [IntKind.wrap_u64]; omega), and_low _ (by rw [IntKind.wrap_u64]; omega) (by rw [IntKind.wrap_u64]; omega)]
  simp only [IntKind.wrap_u64]
  omega
set_option maxHeartbeats 1600000 in
theorem bits_High.calls (a0 : Int) (a1 : Int) (a2 : Bool) (a3 : Bool) (r : Int) (w : World) (h : bits_High.f a0 a1 a2 a3 = some r) :
    Calls Try.prog 63 #[.int .u64 a0, .int .u64 a1, .bool a2, .bool a3] w fun e w' => e = .returned (.int .u64 r) ∧ Below w.heap.size w w' := by
  unfold bits_High.f at h
  by_cases hc : U64 a0 ∧ U64 a1
  · rw [if_pos hc] at h
    obtain rfl := Option.some.inj h
    clear h
    have HP := Lib.hid (hi_parts a0 a1 hc.1.1 hc.1.2 hc.2.1 hc.2.2)
    have HQ := Lib.hid (hi_range a0 a1 hc.1 hc.2)
    clear hc
    unfold U64 at HQ
    cases a2 <;> cases a3
    all_goals
      go_enter Try.func63, Try.ntmps63
      go_wp2
      go_rounds 3
      all_goals go_ret
      all_goals refine ⟨congrArg (fun x => Ending.returned (.int .u64 x)) ?_, (Below.refl _ _).alloc (Nat.le_refl _) _⟩
      all_goals go_light
      all_goals rw [HP.out]
      all_goals have hq := HQ.out
      all_goals clear HP HQ
      all_goals unfold hiOf
      all_goals generalize a0 * a1 / 18446744073709551616 = q at hq ⊢
      all_goals simp only [IntKind.wrap_u64, beq_iff_eq, beq_eq_false_iff_ne, ne_eq] at *
      all_goals simp [*]
      all_goals omega
  · rw [if_neg hc] at h
    exact absurd h (by simp)



/-! ### alu_two_others: function 31 -/
def oneOf (b : Bool) : Int := if b then 1 else 0
def othersOf (op a c : Int) : Int × Bool :=
  if op = 34 ∨ op = 23 then (oneOf (decide (wrap64 a < wrap64 c)), true)
  else if op = 35 ∨ op = 24 then (oneOf (decide (a < c)), true)
  else if op = 36 ∨ op = 25 then (Go.bits .xor .u64 a c, true)
  else if op = 39 ∨ op = 26 then (Go.bits .or .u64 a c, true)
  else if op = 40 ∨ op = 27 then (Go.bits .and .u64 a c, true)
  else if op = 54 then (hiOf a c true true, true)
  else if op = 55 then (hiOf a c true false, true)
  else if op = 56 then (hiOf a c false false, true)
  else (0, false)
def alu_two_others.f (a0_0 : Int) (a0_1 : Int) (a0_2 : Int) (a1 : Int) : Option (Int × Bool) := if U64 a0_0 ∧ U64 a0_1 then some (othersOf a1 a0_0 a0_1) else none
theorem others_ret {op a c : Int} {r : Int} {b : Bool} (h : othersOf op a c = (r, b)) : Ending.returned (.tuple #[.int .u64 r, .bool b]) = .returned (.tuple #[.int .u64 (othersOf op a c).1, .bool (othersOf op a c).2]) := by rw [h]
set_option maxHeartbeats 4000000 in
theorem alu_two_others.c (a c n op : Int) (w : World) (hc : U64 a ∧ U64 c) :
    Calls Try.prog 31 #[.agg #[.int .u64 a, .int .u64 c, .int .i64 n], .int .i64 op] w fun e w' => e = .returned (.tuple #[.int .u64 (othersOf op a c).1, .bool (othersOf op a c).2]) ∧ Below w.heap.size w w' := by
  have h1 : Hid (∀ b W, Calls Try.prog 62 #[.bool b] W fun e w' => e = .returned (.int .u64 (oneOf b)) ∧ Drawn0 W w') := fun b W => alu_one.calls b _ W (by unfold alu_one.f oneOf; cases b <;> rfl)
  have h2 := Lib.hid (fun sa sb W => bits_High.calls a c sa sb _ W (by unfold bits_High.f; rw [if_pos hc]))
  clear hc
  go_enter Try.func31, Try.ntmps31
  go_wp2_with (first | (go_at_call 62; refine (h1.out _ _).mono ?_; rintro e w1 ⟨rfl, ⟨nd, rfl⟩⟩) | (go_at_call 63; refine (h2.out _ _ _).mono ?_; rintro e w1 ⟨rfl, hd⟩; have hd := Lib.hid hd))
  all_goals go_ret2
  all_goals (refine ⟨others_ret ?_, ?_⟩)
  all_goals (try (first | exact ((Below.refl _ _).alloc (Nat.le_refl _) _).trans (hd.out.mono (by simp)) | exact below_drewN ((Below.refl _ _).alloc (Nat.le_refl _) _) _ | (go_grown; done)))
  all_goals simp only [beq_iff_eq, beq_eq_false_iff_ne, ne_eq] at *
  all_goals simp [othersOf, *]
theorem alu_two_others.calls (a0_0 : Int) (a0_1 : Int) (a0_2 : Int) (a1 : Int) (r1 : Int) (r2 : Bool) (w : World) (h : alu_two_others.f a0_0 a0_1 a0_2 a1 = some (r1, r2)) :
    Calls Try.prog 31 #[.agg #[.int .u64 a0_0, .int .u64 a0_1, .int .i64 a0_2], .int .i64 a1] w fun e w' => e = .returned (.tuple #[.int .u64 r1, .bool r2]) ∧ Below w.heap.size w w' := by
  unfold alu_two_others.f at h
  by_cases hc : U64 a0_0 ∧ U64 a0_1
  case neg => rw [if_neg hc] at h; simp at h
  rw [if_pos hc] at h
  have e := Option.some.inj h
  refine (alu_two_others.c a0_0 a0_1 a0_2 a1 w hc).mono ?_
  rintro e2 w' ⟨rfl, hb⟩
  rw [e]
  exact ⟨rfl, hb⟩


/-! ### alu_Value: function 10 -/
def immB (op : Int) : Bool := decide (22 ≤ op ∧ op ≤ 30 ∨ 41 ≤ op ∧ op ≤ 44)
def shortB (op : Int) : Bool := decide (41 ≤ op ∧ op ≤ 49 ∨ 61 ≤ op ∧ op ≤ 65)
def valueAt (op imm pc a C : Int) : Int × Int :=
  if op = 1 then (IntKind.u64.wrap imm, 0) else if op = 2 then (IntKind.u64.wrap (pc + IntKind.u64.wrap imm), 0) else if op = 3 ∨ op = 4 then (IntKind.u64.wrap (pc + 4), 0)
  else if shortB op = true then (signOf (sizedOf op a C 32).1 32, 0) else if (sizedOf op a C 64).2 = true then ((sizedOf op a C 64).1, 0) else if (othersOf op a C).2 = true then ((othersOf op a C).1, 0) else (0, 80)
theorem value_ret {op imm pc a C : Int} {r e : Int} (h : valueAt op imm pc a C = (r, e)) : Ending.returned (.tuple #[.int .u64 r, .int .i64 e]) = .returned (.tuple #[.int .u64 (valueAt op imm pc a C).1, .int .i64 (valueAt op imm pc a C).2]) := by rw [h]
theorem sized_range (op a C n : Int) (ha : U64 a) (hC : U64 C) : U64 (sizedOf op a C n).1 := by
  have r : ∀ s, U64 (rightOf a C n s) := by
    intro s
    unfold rightOf rsh
    have h := cut_range a n s ha
    cases s
    · have hp := ipos (C % n).toNat
      unfold U64 at *
      simp only [Bool.false_eq_true, if_false]
      exact ⟨Int.ediv_nonneg h.1 (by omega), Int.le_trans (Int.ediv_le_self _ h.1) h.2⟩
    · simp only [if_true]; exact U64.wrap _
  have q : ∀ s, U64 (quoOf (cutOf a n s) (cutOf C n s) s) := by
    intro s
    have h1 := cut_range a n s ha
    have h2 := cut_range C n s hC
    unfold quoOf
    split
    · decide
    split
    · exact U64.wrap _
    · unfold U64 at *; exact ⟨Int.ediv_nonneg h1.1 h2.1, Int.le_trans (Int.ediv_le_self _ h1.1) h1.2⟩
  have m : ∀ s, U64 (remOf (cutOf a n s) (cutOf C n s) s) := by
    intro s
    have h1 := cut_range a n s ha
    have h2 := cut_range C n s hC
    unfold remOf
    split
    · exact h1
    split
    · exact U64.wrap _
    · rename_i h0 _
      unfold U64 at *
      have p : 0 < cutOf C n s := by omega
      exact ⟨Int.emod_nonneg _ h0, by have := Int.emod_lt_of_pos (cutOf a n s) p; omega⟩
  unfold sizedOf
  repeat' split
  all_goals dsimp only
  all_goals (first | exact U64.wrap _ | exact r _ | exact q _ | exact m _ | (unfold U64; omega))
set_option maxHeartbeats 4000000 in
theorem alu_Value.w (op rd rs1 rs2 imm pc a b C x32 x64 y z : Int) (aq rl bI bS k32 k64 ky : Bool) (w : World)
    (hG : Hid (∀ W, Calls Try.prog 27 #[.agg #[.int .i64 op, .int .i64 rd, .int .i64 rs1, .int .i64 rs2, .int .i64 imm, .bool aq, .bool rl]] W fun e w' => e = .returned (.bool true) ∧ Below W.heap.size W w'))
    (hI : Hid (∀ W, Calls Try.prog 28 #[.int .i64 op] W fun e w' => e = .returned (.bool bI) ∧ Drawn0 W w'))
    (hSh : Hid (∀ W, Calls Try.prog 29 #[.int .i64 op] W fun e w' => e = .returned (.bool bS) ∧ Drawn0 W w'))
    (h32 : Hid (∀ W, Calls Try.prog 30 #[.agg #[.int .u64 a, .int .u64 C, .int .i64 32], .int .i64 op] W fun e w' => e = .returned (.tuple #[.int .u64 x32, .bool k32]) ∧ Below W.heap.size W w'))
    (h64 : Hid (∀ W, Calls Try.prog 30 #[.agg #[.int .u64 a, .int .u64 C, .int .i64 64], .int .i64 op] W fun e w' => e = .returned (.tuple #[.int .u64 x64, .bool k64]) ∧ Below W.heap.size W w'))
    (hO : Hid (∀ W, Calls Try.prog 31 #[.agg #[.int .u64 a, .int .u64 C, .int .i64 64], .int .i64 op] W fun e w' => e = .returned (.tuple #[.int .u64 y, .bool ky]) ∧ Below W.heap.size W w'))
    (hZ : Hid (∀ W, Calls Try.prog 16 #[.int .u64 x32, .int .i64 32] W fun e w' => e = .returned (.int .u64 z) ∧ Drawn0 W w'))
    (hC : Hid (C = if bI = true then IntKind.u64.wrap imm else b)) (R E : Int)
    (hR : Hid ((R, E) = if op = 1 then (IntKind.u64.wrap imm, 0) else if op = 2 then (IntKind.u64.wrap (pc + IntKind.u64.wrap imm), 0) else if op = 3 ∨ op = 4 then (IntKind.u64.wrap (pc + 4), 0) else if bS = true then (z, 0) else if k64 = true then (x64, 0) else if ky = true then (y, 0) else (0, 80))) :
    Calls Try.prog 10 #[.agg #[.int .i64 op, .int .i64 rd, .int .i64 rs1, .int .i64 rs2, .int .i64 imm, .bool aq, .bool rl], .int .u64 pc, .int .u64 a, .int .u64 b] w fun e w' => e = .returned (.tuple #[.int .u64 R, .int .i64 E]) ∧ Below w.heap.size w w' := by
  have cs : op = 1 ∨ op = 2 ∨ op = 3 ∨ op = 4 ∨ (op ≠ 1 ∧ op ≠ 2 ∧ op ≠ 3 ∧ op ≠ 4) ∧ bS = true ∨ (op ≠ 1 ∧ op ≠ 2 ∧ op ≠ 3 ∧ op ≠ 4) ∧ bS = false ∧ k64 = true ∨ (op ≠ 1 ∧ op ≠ 2 ∧ op ≠ 3 ∧ op ≠ 4) ∧ bS = false ∧ k64 = false ∧ ky = true ∨ (op ≠ 1 ∧ op ≠ 2 ∧ op ≠ 3 ∧ op ≠ 4) ∧ bS = false ∧ k64 = false ∧ ky = false := by
    cases bS <;> cases k64 <;> cases ky <;> simp <;> omega
  cases bI
  all_goals (
    have hC := hC.out
    simp only [if_true, Bool.false_eq_true, if_false] at hC
    subst hC
    rcases cs with rfl | rfl | rfl | rfl | ⟨⟨o1, o2, o3, o4⟩, rfl⟩ | ⟨⟨o1, o2, o3, o4⟩, rfl, rfl⟩ | ⟨⟨o1, o2, o3, o4⟩, rfl, rfl, rfl⟩ | ⟨⟨o1, o2, o3, o4⟩, rfl, rfl, rfl⟩)
  all_goals (
    have hR := hR.out
    simp [*] at hR
    obtain ⟨rfl, rfl⟩ := hR
    go_enter Try.func10, Try.ntmps10
    go_wp2_with fail
    refine (hG.out _).mono ?_
    rintro e w1 ⟨rfl, hb⟩
    have B1 := (Blk.new w _ _).below hb
    have hb := Lib.hid ((((Below.refl w.heap.size w).alloc (Nat.le_refl _) _).trans (hb.mono (by simp))))
    have c1 := B1.cell
    have l1 := B1.lt
    have B1 := Lib.hid B1
    go_wp2_with fail
    generalize hX : World.alloc w1 _ = X
    have K1 := B1.out.alloc_eq hX
    have K2 := Blk.new_eq hX
    have HX := Lib.hid (below_alloc_eq hb.out hb.out.size hX)
    have hsz : w.heap.size ≤ w1.heap.size := hb.out.size
    have hez : X.heap.size = w1.heap.size + 1 := by rw [← hX, World.size_alloc]
    clear hX c1 B1 hb
    have k1 := K1.cell
    have k2 := K2.cell
    have f2 := K2.frozen
    clear K1 K2
    go_wp2_with (first | (go_at_call 28; refine (hI.out _).mono ?_; rintro e w3 ⟨rfl, ⟨nd, rfl⟩⟩) | (go_at_call 29; refine (hSh.out _).mono ?_; rintro e w3 ⟨rfl, ⟨nd, rfl⟩⟩) | (go_at_call 16; refine (hZ.out _).mono ?_; rintro e w3 ⟨rfl, ⟨nd, rfl⟩⟩) | (go_at_call 30; (with_reducible first | refine (h32.out _).mono ?_ | refine (h64.out _).mono ?_); rintro e w5 ⟨rfl, hd⟩; obtain ⟨bc, bf⟩ := bcell hd; have s5 := hd.size; simp at s5; have hd := Lib.hid hd) | (go_at_call 31; refine (hO.out _).mono ?_; rintro e w6 ⟨rfl, he⟩; have he := Lib.hid he))
    all_goals (
      go_ret2
      refine ⟨rfl, ?_⟩
      (try refine Below.trans ?_ (he.out.mono (by (try simp); omega)))
      repeat (first | exact HX.out | apply below_drewN | (refine Below.setCell ?_ (by simp; omega) _) | (refine Below.trans ?_ (hd.out.mono (by (try simp); omega))))))
def valueOf (op imm pc a b : Int) : Int × Int := valueAt op imm pc a (if immB op = true then IntKind.u64.wrap imm else b)
def alu_Value.f (a0_0 : Int) (a0_1 : Int) (a0_2 : Int) (a0_3 : Int) (a0_4 : Int) (a0_5 : Bool) (a0_6 : Bool) (a1 : Int) (a2 : Int) (a3 : Int) : Option (Int × Int) := if I64 a0_4 ∧ U64 a2 ∧ U64 a3 then (if goodOf a0_0 a0_1 a0_2 a0_3 a0_4 a0_5 a0_6 = true then some (valueOf a0_0 a0_4 a1 a2 a3) else some (0, 20)) else none
set_option maxHeartbeats 1000000 in
theorem alu_Value.n (a0_0 a0_1 a0_2 a0_3 a0_4 pc a b : Int) (a0_5 a0_6 : Bool) (w : World)
    (hG : Hid (∀ W, Calls Try.prog 27 #[.agg #[.int .i64 a0_0, .int .i64 a0_1, .int .i64 a0_2, .int .i64 a0_3, .int .i64 a0_4, .bool a0_5, .bool a0_6]] W fun e w' => e = .returned (.bool false) ∧ Below W.heap.size W w')) :
    Calls Try.prog 10 #[.agg #[.int .i64 a0_0, .int .i64 a0_1, .int .i64 a0_2, .int .i64 a0_3, .int .i64 a0_4, .bool a0_5, .bool a0_6], .int .u64 pc, .int .u64 a, .int .u64 b] w fun e w' => e = .returned (.tuple #[.int .u64 0, .int .i64 20]) ∧ Below w.heap.size w w' := by
  go_enter Try.func10, Try.ntmps10
  go_wp2_with fail
  refine (hG.out _).mono ?_
  rintro e w1 ⟨rfl, hb⟩
  have hb := Lib.hid ((((Below.refl w.heap.size w).alloc (Nat.le_refl _) _).trans (hb.mono (by simp))))
  go_wp2_with fail
  go_ret2
  exact ⟨rfl, hb.out⟩
theorem alu_Value.calls (a0_0 : Int) (a0_1 : Int) (a0_2 : Int) (a0_3 : Int) (a0_4 : Int) (a0_5 : Bool) (a0_6 : Bool) (a1 : Int) (a2 : Int) (a3 : Int) (r1 : Int) (r2 : Int) (w : World) (h : alu_Value.f a0_0 a0_1 a0_2 a0_3 a0_4 a0_5 a0_6 a1 a2 a3 = some (r1, r2)) :
    Calls Try.prog 10 #[.agg #[.int .i64 a0_0, .int .i64 a0_1, .int .i64 a0_2, .int .i64 a0_3, .int .i64 a0_4, .bool a0_5, .bool a0_6], .int .u64 a1, .int .u64 a2, .int .u64 a3] w fun e w' => e = .returned (.tuple #[.int .u64 r1, .int .i64 r2]) ∧ Below w.heap.size w w' := by
  unfold alu_Value.f at h
  by_cases hc : I64 a0_4 ∧ U64 a2 ∧ U64 a3
  case neg => rw [if_neg hc] at h; simp at h
  rw [if_pos hc] at h
  obtain ⟨hI, ha, hb⟩ := hc
  have gc := fun b hb => Lib.hid (fun W => inst_Good.calls a0_0 a0_1 a0_2 a0_3 a0_4 a0_5 a0_6 b W (by unfold inst_Good.f; rw [if_pos hI]; exact congrArg some hb))
  by_cases hg : goodOf a0_0 a0_1 a0_2 a0_3 a0_4 a0_5 a0_6 = true
  · rw [if_pos hg] at h
    have e := Option.some.inj h
    have hC : U64 (if immB a0_0 = true then IntKind.u64.wrap a0_4 else a3) := by split; exact U64.wrap _; exact hb
    refine alu_Value.w a0_0 a0_1 a0_2 a0_3 a0_4 a1 a2 a3 (if immB a0_0 = true then IntKind.u64.wrap a0_4 else a3) _ _ _ _ a0_5 a0_6 (immB a0_0) (shortB a0_0) _ _ _ w (gc true hg)
      (fun W => alu_imm.calls _ _ W (by unfold alu_imm.f immB; by_cases h1 : 22 ≤ a0_0 <;> by_cases h2 : a0_0 ≤ 30 <;> by_cases h3 : 41 ≤ a0_0 <;> by_cases h4 : a0_0 ≤ 44 <;> simp [h1, h2, h3, h4] <;> omega))
      (fun W => alu_short.calls _ _ W (by unfold alu_short.f shortB; by_cases h1 : 41 ≤ a0_0 <;> by_cases h2 : a0_0 ≤ 49 <;> by_cases h3 : 61 ≤ a0_0 <;> by_cases h4 : a0_0 ≤ 65 <;> simp [h1, h2, h3, h4] <;> omega))
      (fun W => alu_two_sized.c _ _ 32 _ W ⟨ha, hC, .inr rfl⟩) (fun W => alu_two_sized.c _ _ 64 _ W ⟨ha, hC, .inl rfl⟩) (fun W => alu_two_others.c _ _ 64 _ W ⟨ha, hC⟩)
      (fun W => bits_Sign.calls _ _ _ W (by unfold bits_Sign.f; rw [if_pos (sized_range _ _ _ _ ha hC)])) rfl r1 r2 ?_
    exact (e.symm : _)
  · have hg' : goodOf a0_0 a0_1 a0_2 a0_3 a0_4 a0_5 a0_6 = false := by simpa using hg
    rw [if_neg hg] at h
    simp only [Option.some.injEq, Prod.mk.injEq] at h
    obtain ⟨rfl, rfl⟩ := h
    exact alu_Value.n a0_0 a0_1 a0_2 a0_3 a0_4 a1 a2 a3 a0_5 a0_6 w (gc false hg')


end Go.Proofs.Ytjdidadafccepaa.PAluTurn
