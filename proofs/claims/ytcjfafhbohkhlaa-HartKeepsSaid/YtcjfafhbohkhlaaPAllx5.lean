/- DERIVED. The contracts of the Go functions that one law reaches: each call returns what the plain function beside it says, under that theorem's own premises. Written by a program (hp.py) over the kit's printed words. -/
import Derived.Test.YtcjfafhbohkhlaaPAllx0
import Derived.Test.YtcjfafhbohkhlaaPAllx2
import Derived.Test.YtcjfafhbohkhlaaPAllx4
namespace Go.Proofs.Ytcjfafhbohkhlaa.PAll
open Go.RowKit Go.Proofs.YtcjfafhbohkhlaaW.PrintWords Go.Proofs.YtcjfafhbohkhlaaW.PrintLast Go.Proofs.YtcjfafhbohkhlaaW.PrintMore Go.Proofs.Ytcjfafhbohkhlaa.M
attribute [local go_sem] max2_int min2_int max_two min_two max_three min_three max_four min_four   -- for this text's walks alone
set_option linter.unusedVariables false
set_option linter.unusedSimpArgs false

/-! ### inst_Encode0: function 20 -/
def inst_Encode0.l0 : Nat → Int → List (S80) → Int → Int → Int → Int → Int → Int → Int → Bool → Bool → Option (Int × Int)
  | 0, _, _, _, _, _, _, _, _, _, _, _ => none
  | k + 1, x5, x38, x39, x40, x139000, x139001, x139002, x139003, x139004, x139005, x139006 => if x40 < x39 then (if 0 ≤ x40 then (if x40 < (x38.length : Int) then (if 0 ≤ ((rd_T80 x38 x40).f2) then (if 0 ≤ ((rd_T80 x38 x40).f0) then (if 0 ≤ ((rd_T80 x38 x40).f1) then ((bits_Place.f x5 ((rd_T80 x38 x40).f2) ((rd_T80 x38 x40).f1) (Go.bits .or .u64 (shr .u64 x5 ((rd_T80 x38 x40).f2)) (Go.bits .and .u64 (shr .u64 (IntKind.u64.wrap (x139004)) ((rd_T80 x38 x40).f0)) (IntKind.u64.wrap ((shl .u64 1 ((rd_T80 x38 x40).f1)) - 1))))).bind fun t151 => (inst_Encode0.l0 k t151 x38 x39 (wrap64 (x40 + 1)) x139000 x139001 x139002 x139003 x139004 x139005 x139006)) else (none)) else (none)) else (none)) else (none)) else (none)) else (if x139005 = true then (if x139006 = true then (some ((Go.bits .or .u64 (Go.bits .or .u64 x5 67108864) 33554432) % 4294967296, 0)) else (some ((Go.bits .or .u64 x5 67108864) % 4294967296, 0))) else (if x139006 = true then (some ((Go.bits .or .u64 x5 33554432) % 4294967296, 0)) else (some ((x5) % 4294967296, 0))))
def inst_Encode0.f (k : Nat) (a0_0 : Int) (a0_1 : Int) (a0_2 : Int) (a0_3 : Int) (a0_4 : Int) (a0_5 : Bool) (a0_6 : Bool) : Option (Int × Int) := (inst_Good.f a0_0 a0_1 a0_2 a0_3 a0_4 a0_5 a0_6).bind fun t139 => (if t139 = true then ((inst_of.f a0_0).bind fun bt140 => ((inst_row_high.f bt140.1 bt140.2.1 bt140.2.2.1 bt140.2.2.2).bind fun t145 => ((inst_places.f bt140.1).bind fun t146 => (inst_Encode0.l0 k (Go.bits .or .u64 (IntKind.u64.wrap (Go.bits .or .i64 (Go.bits .or .i64 (Go.bits .or .i64 (Go.bits .or .i64 bt140.2.1 (wrap64 (bt140.2.2.1 * 4096))) (wrap64 (a0_1 * 128))) (wrap64 (a0_2 * 32768))) (wrap64 (a0_3 * 1048576)))) t145) t146 (t146.length : Int) 0 a0_0 a0_1 a0_2 a0_3 a0_4 a0_5 a0_6)))) else (some (0, 20)))
theorem inst_Encode0.mono_l : ∀ k, (∀ y0 y1 y2 y3 y4 y5 y6 y7 y8 y9 y10, LeO (inst_Encode0.l0 k y0 y1 y2 y3 y4 y5 y6 y7 y8 y9 y10) (inst_Encode0.l0 (k + 1) y0 y1 y2 y3 y4 y5 y6 y7 y8 y9 y10))
  | 0 => fun _ _ _ _ _ _ _ _ _ _ _ r h => by simp [inst_Encode0.l0] at h
  | k + 1 => by
    have ih0 := inst_Encode0.mono_l k
    · intro y0 y1 y2 y3 y4 y5 y6 y7 y8 y9 y10
      unfold inst_Encode0.l0
      repeat' first
      | (with_reducible exact ih0 _ _ _ _ _ _ _ _ _ _ _)
      | (with_reducible exact LeO.refl _)
      | (with_reducible exact LeO.none _)
      | (with_reducible refine LeO.ite ?_ ?_)
      | (with_reducible refine LeO.bind ?_ (fun _ => ?_))
      | exact ih0 _ _ _ _ _ _ _ _ _ _ _
      | exact LeO.none _
      | refine LeO.ite ?_ ?_
      | refine LeO.bind ?_ (fun _ => ?_)
theorem inst_Encode0.mono : ∀ a0 a1 a2 a3 a4 a5 a6 k, LeO (inst_Encode0.f k a0 a1 a2 a3 a4 a5 a6) (inst_Encode0.f (k + 1) a0 a1 a2 a3 a4 a5 a6) := by
  intro a0 a1 a2 a3 a4 a5 a6 k
  have ih0 := inst_Encode0.mono_l k
  unfold inst_Encode0.f
  repeat' first
      | (with_reducible exact ih0 _ _ _ _ _ _ _ _ _ _ _)
      | (with_reducible exact LeO.refl _)
      | (with_reducible exact LeO.none _)
      | (with_reducible refine LeO.ite ?_ ?_)
      | (with_reducible refine LeO.bind ?_ (fun _ => ?_))
      | exact ih0 _ _ _ _ _ _ _ _ _ _ _
      | exact LeO.none _
      | refine LeO.ite ?_ ?_
      | refine LeO.bind ?_ (fun _ => ?_)
def inst_Encode0.T4 : Bool × List (List Nat × List Nat) := (true, [([], []), ([0], [0]), ([], []), ([2], [2]), ([3], [3]), ([1, 4], [1, 4]), ([], []), ([6], [6]), ([7], [7]), ([5, 8], [5, 8]), ([], []), ([10], [10]), ([11], [11]), ([9, 12], [9, 12]), ([], []), ([14], [14]), ([15], [15]), ([13, 16], [13, 16]), ([17], [17]), ([], []), ([19], [19]), ([18, 20], [18, 20]), ([21, 20, 0, 1, 2, 3, 4, 5, 6, 7, 8, 9, 10, 11, 12, 13, 14, 15, 16, 17, 18, 19, 20, 21], [21])])
def inst_Encode0.B4 : List Nat := [0, 1, 0, 4, 12, 31, 0, 64, 192, 511, 0, 1024, 3072, 8191, 0, 16384, 49152, 131071, 262143, 0, 524288, 2097151, 4194303]
theorem inst_Encode0.tab4 : rtab .any (opsOf Try.f20 4) = inst_Encode0.T4 := by kernel_rfl
theorem inst_Encode0.bits4 : waitsOk inst_Encode0.T4.2 inst_Encode0.B4 = true := by kernel_rfl
def inst_Encode0.T8 : Bool × List (List Nat × List Nat) := (true, [([], []), ([], []), ([1], [1]), ([], []), ([3], [3]), ([], []), ([], []), ([6], [6]), ([5, 7], [5, 7]), ([], []), ([9], [9]), ([10], [10]), ([], []), ([12], [12]), ([11, 13], [11, 13]), ([], []), ([15], [15]), ([16], [16]), ([17], [17]), ([14, 18], [14, 18]), ([8, 19], [8, 19]), ([0, 2, 4, 20], [0, 2, 4, 20]), ([21, 21, 0, 1, 2, 3, 4, 5, 6, 7, 8, 9, 10, 11, 12, 13, 14, 15, 16, 17, 18, 19, 20, 21], [0, 5, 21])])
def inst_Encode0.B8 : List Nat := [0, 0, 2, 0, 8, 0, 0, 64, 224, 0, 512, 1536, 0, 4096, 15872, 0, 32768, 98304, 229376, 523776, 1048544, 2097151, 4194303]
theorem inst_Encode0.tab8 : rtab .any (opsOf Try.f20 8) = inst_Encode0.T8 := by kernel_rfl
theorem inst_Encode0.bits8 : waitsOk inst_Encode0.T8.2 inst_Encode0.B8 = true := by kernel_rfl
set_option maxHeartbeats 8000000 in
set_option maxRecDepth 100000 in
theorem inst_Encode0.calls (k : Nat) (a0_0 : Int) (a0_1 : Int) (a0_2 : Int) (a0_3 : Int) (a0_4 : Int) (a0_5 : Bool) (a0_6 : Bool) (r1 : Int) (r2 : Int) (w : World) (h : inst_Encode0.f k a0_0 a0_1 a0_2 a0_3 a0_4 a0_5 a0_6 = some (r1, r2)) :
    Calls Try.prog 20 #[.agg #[.int .i64 a0_0, .int .i64 a0_1, .int .i64 a0_2, .int .i64 a0_3, .int .i64 a0_4, .bool a0_5, .bool a0_6]] w fun e w' => e = .returned (.tuple #[.int .u32 r1, .int .i64 r2]) ∧ Below w.heap.size w w' := by
  have hu37 := Try.underlying37
  have hu74 := Try.underlying74
  have hu80 := Try.underlying80
  have HB := Aside0.mk (Below.refl w.heap.size w)
  have H : ((inst_Good.f a0_0 a0_1 a0_2 a0_3 a0_4 a0_5 a0_6).bind fun t139 => (if t139 = true then ((inst_of.f a0_0).bind fun bt140 => ((inst_row_high.f bt140.1 bt140.2.1 bt140.2.2.1 bt140.2.2.2).bind fun t145 => ((inst_places.f bt140.1).bind fun t146 => (inst_Encode0.l0 k (Go.bits .or .u64 (IntKind.u64.wrap (Go.bits .or .i64 (Go.bits .or .i64 (Go.bits .or .i64 (Go.bits .or .i64 bt140.2.1 (wrap64 (bt140.2.2.1 * 4096))) (wrap64 (a0_1 * 128))) (wrap64 (a0_2 * 32768))) (wrap64 (a0_3 * 1048576)))) t145) t146 (t146.length : Int) 0 a0_0 a0_1 a0_2 a0_3 a0_4 a0_5 a0_6)))) else (some (0, 20)))) = some (r1, r2) := h
  clear h
  replace H := Option.bind_eq_some_iff.mp H
  obtain ⟨t139, A20, H⟩ := H
  replace H : (if t139 = true then ((inst_of.f a0_0).bind fun bt140 => ((inst_row_high.f bt140.1 bt140.2.1 bt140.2.2.1 bt140.2.2.2).bind fun t145 => ((inst_places.f bt140.1).bind fun t146 => (inst_Encode0.l0 k (Go.bits .or .u64 (IntKind.u64.wrap (Go.bits .or .i64 (Go.bits .or .i64 (Go.bits .or .i64 (Go.bits .or .i64 bt140.2.1 (wrap64 (bt140.2.2.1 * 4096))) (wrap64 (a0_1 * 128))) (wrap64 (a0_2 * 32768))) (wrap64 (a0_3 * 1048576)))) t145) t146 (t146.length : Int) 0 a0_0 a0_1 a0_2 a0_3 a0_4 a0_5 a0_6)))) else (some (0, 20))) = some (r1, r2) := H
  have A2 := Aside0.mk A20
  clear A20
  by_cases c3 : t139 = true
  · subst c3
    have H1 : ((inst_of.f a0_0).bind fun bt140 => ((inst_row_high.f bt140.1 bt140.2.1 bt140.2.2.1 bt140.2.2.2).bind fun t145 => ((inst_places.f bt140.1).bind fun t146 => (inst_Encode0.l0 k (Go.bits .or .u64 (IntKind.u64.wrap (Go.bits .or .i64 (Go.bits .or .i64 (Go.bits .or .i64 (Go.bits .or .i64 bt140.2.1 (wrap64 (bt140.2.2.1 * 4096))) (wrap64 (a0_1 * 128))) (wrap64 (a0_2 * 32768))) (wrap64 (a0_3 * 1048576)))) t145) t146 (t146.length : Int) 0 a0_0 a0_1 a0_2 a0_3 a0_4 a0_5 a0_6)))) = some (r1, r2) := by rw [if_pos rfl] at H; exact H
    clear H
    have H := H1
    clear H1
    replace H := Option.bind_eq_some_iff.mp H
    obtain ⟨⟨t140, t141, t142, t143⟩, A40, H⟩ := H
    replace H : ((inst_row_high.f t140 t141 t142 t143).bind fun t145 => ((inst_places.f t140).bind fun t146 => (inst_Encode0.l0 k (Go.bits .or .u64 (IntKind.u64.wrap (Go.bits .or .i64 (Go.bits .or .i64 (Go.bits .or .i64 (Go.bits .or .i64 t141 (wrap64 (t142 * 4096))) (wrap64 (a0_1 * 128))) (wrap64 (a0_2 * 32768))) (wrap64 (a0_3 * 1048576)))) t145) t146 (t146.length : Int) 0 a0_0 a0_1 a0_2 a0_3 a0_4 a0_5 a0_6))) = some (r1, r2) := H
    have A4 := Aside0.mk A40
    clear A40
    replace H := Option.bind_eq_some_iff.mp H
    obtain ⟨t145, A50, H⟩ := H
    replace H : ((inst_places.f t140).bind fun t146 => (inst_Encode0.l0 k (Go.bits .or .u64 (IntKind.u64.wrap (Go.bits .or .i64 (Go.bits .or .i64 (Go.bits .or .i64 (Go.bits .or .i64 t141 (wrap64 (t142 * 4096))) (wrap64 (a0_1 * 128))) (wrap64 (a0_2 * 32768))) (wrap64 (a0_3 * 1048576)))) t145) t146 (t146.length : Int) 0 a0_0 a0_1 a0_2 a0_3 a0_4 a0_5 a0_6)) = some (r1, r2) := H
    have A5 := Aside0.mk A50
    clear A50
    replace H := Option.bind_eq_some_iff.mp H
    obtain ⟨t146, A60, H⟩ := H
    replace H : (inst_Encode0.l0 k (Go.bits .or .u64 (IntKind.u64.wrap (Go.bits .or .i64 (Go.bits .or .i64 (Go.bits .or .i64 (Go.bits .or .i64 t141 (wrap64 (t142 * 4096))) (wrap64 (a0_1 * 128))) (wrap64 (a0_2 * 32768))) (wrap64 (a0_3 * 1048576)))) t145) t146 (t146.length : Int) 0 a0_0 a0_1 a0_2 a0_3 a0_4 a0_5 a0_6) = some (r1, r2) := H
    have A6 := Aside0.mk A60
    clear A60
    have H' := Aside0.mk H
    clear H
    go_enter Try.func20, Try.ntmps20
    try go_wp2_with (first | ((with_reducible refine gate_dst (N := 1) rfl ?_); refine box_event ?hg (N := 1) ?hd (cs := #[.int .i64 a0_0, .int .i64 a0_1, .int .i64 a0_2, .int .i64 a0_3, .int .i64 a0_4, .bool a0_5, .bool a0_6]) (t := 37) ?hr ?_; (case hd => rfl); (case hg => rfl); (case hr => first | (go_simp; done) | (go_simp; rfl)); intro gb138 hg w7 hbox hb; have n0_ := Aside0.mk (below_step (by repeat (first | (with_reducible first | exact HB.out | apply below_alloc | apply pw_below_drewN | apply below_drew1) | exact HB.out)) hb); have n1_ := Aside0.mk (hbox); have n2_ := Aside0.mk ((by rw [hg]; exact (below_size (by repeat (first | (with_reducible first | exact HB.out | apply below_alloc | apply pw_below_drewN | apply below_drew1) | exact HB.out))) : w.heap.size ≤ gb138)); have n3_ := Aside0.mk ((by rw [hg]; exact (below_size (by repeat (first | (with_reducible first | exact HB.out | apply below_alloc | apply pw_below_drewN | apply below_drew1) | exact HB.out))) : w.heap.size ≤ gb138)); clear HB; have HB := n0_; have BK138 := n1_; have GW138 := n2_; have GE138 := n3_; clear n0_ n1_ n2_ n3_; clear hb hbox hg; have hcz8_0 : w7.cell? ⟨gb138, 0, none⟩ = some (.int .i64 a0_0) := (blk_cell BK138.out 0).trans rfl; have hcz8_1 : w7.cell? ⟨gb138, 1, none⟩ = some (.int .i64 a0_1) := (blk_cell BK138.out 1).trans rfl; have hcz8_2 : w7.cell? ⟨gb138, 2, none⟩ = some (.int .i64 a0_2) := (blk_cell BK138.out 2).trans rfl; have hcz8_3 : w7.cell? ⟨gb138, 3, none⟩ = some (.int .i64 a0_3) := (blk_cell BK138.out 3).trans rfl; have hcz8_4 : w7.cell? ⟨gb138, 4, none⟩ = some (.int .i64 a0_4) := (blk_cell BK138.out 4).trans rfl; have hcz8_5 : w7.cell? ⟨gb138, 5, none⟩ = some (.bool a0_5) := (blk_cell BK138.out 5).trans rfl; have hcz8_6 : w7.cell? ⟨gb138, 6, none⟩ = some (.bool a0_6) := (blk_cell BK138.out 6).trans rfl; have hfz8_0 := blk_frozen BK138.out 0; have hfz8_1 := blk_frozen BK138.out 1; have hfz8_2 := blk_frozen BK138.out 2; have hfz8_3 := blk_frozen BK138.out 3; have hfz8_4 := blk_frozen BK138.out 4; have hfz8_5 := blk_frozen BK138.out 5; have hfz8_6 := blk_frozen BK138.out 6) | ((with_reducible refine gate_callee (f := 32) rfl ?_); refine goesL_ (some 9) rfl rfl Try.func32 (by kernel_rfl) rfl #[.agg #[.int .i64 a0_0, .int .i64 a0_1, .int .i64 a0_2, .int .i64 a0_3, .int .i64 a0_4, .bool a0_5, .bool a0_6]] rfl (by (try simp only [List.map_toArray, List.map_cons, List.map_nil]); first | done | rfl | (simp only [List.length_drop, List.length_take]; rfl)) ?_; (with_reducible refine (inst_Good.calls a0_0 a0_1 a0_2 a0_3 a0_4 a0_5 a0_6 true _ A2.out).mono ?_); rintro e w9 ⟨rfl, hb⟩; refine ⟨_, rfl, ?_⟩; have n0_ := Aside0.mk (blk_below (g := gb138) (o := .cells #[.int .i64 a0_0, .int .i64 a0_1, .int .i64 a0_2, .int .i64 a0_3, .int .i64 a0_4, .bool a0_5, .bool a0_6] 37 (0, 0)) (by (with_reducible repeat (first | refine blk_drewN ?_ _ | refine blk_drew ?_ | refine blk_alloc ?_ _)); exact BK138.out) hb); have n1_ := Aside0.mk (below_step (by repeat (first | (with_reducible first | exact HB.out | apply below_alloc | apply pw_below_drewN | apply below_drew1 | refine below_set ?_ GE138.out) | exact HB.out)) hb); clear BK138; clear HB; have BK138 := n0_; have HB := n1_; clear n0_ n1_; (try clear hb); (try clear hb2); (try clear hk); (try clear hi); have hcz10_0 : w9.cell? ⟨gb138, 0, none⟩ = some (.int .i64 a0_0) := (blk_cell BK138.out 0).trans rfl; have hcz10_1 : w9.cell? ⟨gb138, 1, none⟩ = some (.int .i64 a0_1) := (blk_cell BK138.out 1).trans rfl; have hcz10_2 : w9.cell? ⟨gb138, 2, none⟩ = some (.int .i64 a0_2) := (blk_cell BK138.out 2).trans rfl; have hcz10_3 : w9.cell? ⟨gb138, 3, none⟩ = some (.int .i64 a0_3) := (blk_cell BK138.out 3).trans rfl; have hcz10_4 : w9.cell? ⟨gb138, 4, none⟩ = some (.int .i64 a0_4) := (blk_cell BK138.out 4).trans rfl; have hcz10_5 : w9.cell? ⟨gb138, 5, none⟩ = some (.bool a0_5) := (blk_cell BK138.out 5).trans rfl; have hcz10_6 : w9.cell? ⟨gb138, 6, none⟩ = some (.bool a0_6) := (blk_cell BK138.out 6).trans rfl; have hfz10_0 := blk_frozen BK138.out 0; have hfz10_1 := blk_frozen BK138.out 1; have hfz10_2 := blk_frozen BK138.out 2; have hfz10_3 := blk_frozen BK138.out 3; have hfz10_4 := blk_frozen BK138.out 4; have hfz10_5 := blk_frozen BK138.out 5; have hfz10_6 := blk_frozen BK138.out 6) | ((with_reducible refine gate_callee (f := 34) rfl ?_); refine goesL_ (some 13) rfl rfl Try.func34 (by kernel_rfl) rfl #[.int .i64 a0_0] rfl (by (try simp only [List.map_toArray, List.map_cons, List.map_nil]); first | done | rfl | (simp only [List.length_drop, List.length_take]; rfl)) ?_; (with_reducible refine (inst_of.calls a0_0 t140 t141 t142 t143 _ A4.out).mono ?_); rintro e w11 ⟨rfl, hb⟩; refine ⟨_, rfl, ?_⟩; have n0_ := Aside0.mk (blk_below (g := gb138) (o := .cells #[.int .i64 a0_0, .int .i64 a0_1, .int .i64 a0_2, .int .i64 a0_3, .int .i64 a0_4, .bool a0_5, .bool a0_6] 37 (0, 0)) (by (with_reducible repeat (first | refine blk_drewN ?_ _ | refine blk_drew ?_ | refine blk_alloc ?_ _)); exact BK138.out) hb); have n1_ := Aside0.mk (below_step (by repeat (first | (with_reducible first | exact HB.out | apply below_alloc | apply pw_below_drewN | apply below_drew1 | refine below_set ?_ GE138.out) | exact HB.out)) hb); clear BK138; clear HB; have BK138 := n0_; have HB := n1_; clear n0_ n1_; (try clear hb); (try clear hb2); (try clear hk); (try clear hi)) | ((with_reducible refine gate_dst (N := 4) rfl ?_); refine box_event ?hg (N := 4) ?hd (cs := #[.int .i64 0, .int .i64 0, .int .i64 0, .int .i64 0]) (t := 74) ?hr ?_; (case hd => rfl); (case hg => rfl); (case hr => first | (go_simp; done) | (go_simp; rfl)); intro gb144 hg w12 hbox hb; have n0_ := Aside0.mk (blk_below (g := gb138) (o := .cells #[.int .i64 a0_0, .int .i64 a0_1, .int .i64 a0_2, .int .i64 a0_3, .int .i64 a0_4, .bool a0_5, .bool a0_6] 37 (0, 0)) (by (with_reducible repeat (first | refine blk_drewN ?_ _ | refine blk_drew ?_ | refine blk_alloc ?_ _)); exact BK138.out) hb); have n1_ := Aside0.mk (below_step (by repeat (first | (with_reducible first | exact HB.out | apply below_alloc | apply pw_below_drewN | apply below_drew1 | refine below_set ?_ GE138.out) | exact HB.out)) hb); have n2_ := Aside0.mk (hbox); have n3_ := Aside0.mk ((by rw [hg]; exact (below_size (by repeat (first | (with_reducible first | exact HB.out | apply below_alloc | apply pw_below_drewN | apply below_drew1 | refine below_set ?_ GE138.out) | exact HB.out))) : w.heap.size ≤ gb144)); have n4_ := Aside0.mk ((by rw [hg]; exact (below_size (by repeat (first | (with_reducible first | exact HB.out | apply below_alloc | apply pw_below_drewN | apply below_drew1 | refine below_set ?_ GE138.out) | exact HB.out))) : w.heap.size ≤ gb144)); have n5_ := Aside0.mk ((by rw [hg]; exact Nat.ne_of_lt (blk_lt (g := gb138) (o := .cells #[.int .i64 a0_0, .int .i64 a0_1, .int .i64 a0_2, .int .i64 a0_3, .int .i64 a0_4, .bool a0_5, .bool a0_6] 37 (0, 0)) (by (with_reducible repeat (first | refine blk_drewN ?_ _ | refine blk_drew ?_ | refine blk_alloc ?_ _)); exact BK138.out)) : gb138 ≠ gb144)); have n6_ := Aside0.mk ((by rw [hg]; exact Nat.ne_of_gt (blk_lt (g := gb138) (o := .cells #[.int .i64 a0_0, .int .i64 a0_1, .int .i64 a0_2, .int .i64 a0_3, .int .i64 a0_4, .bool a0_5, .bool a0_6] 37 (0, 0)) (by (with_reducible repeat (first | refine blk_drewN ?_ _ | refine blk_drew ?_ | refine blk_alloc ?_ _)); exact BK138.out)) : gb144 ≠ gb138)); clear BK138; clear HB; have BK138 := n0_; have HB := n1_; have BK144 := n2_; have GW144 := n3_; have GE144 := n4_; have NB138_144 := n5_; have NB144_138 := n6_; clear n0_ n1_ n2_ n3_ n4_ n5_ n6_; clear hb hbox hg; have hnb13 := NB144_138.out; have hnc13 := NB138_144.out; have hcz14_0 : w12.cell? ⟨gb144, 0, none⟩ = some (.int .i64 0) := (blk_cell BK144.out 0).trans rfl; have hcz14_1 : w12.cell? ⟨gb144, 1, none⟩ = some (.int .i64 0) := (blk_cell BK144.out 1).trans rfl; have hcz14_2 : w12.cell? ⟨gb144, 2, none⟩ = some (.int .i64 0) := (blk_cell BK144.out 2).trans rfl; have hcz14_3 : w12.cell? ⟨gb144, 3, none⟩ = some (.int .i64 0) := (blk_cell BK144.out 3).trans rfl; have hfz14_0 := blk_frozen BK144.out 0; have hfz14_1 := blk_frozen BK144.out 1; have hfz14_2 := blk_frozen BK144.out 2; have hfz14_3 := blk_frozen BK144.out 3))
    have n0_ : Aside0 (((((w12.setCell ⟨gb144, 0, none⟩ (.int .i64 t140)).setCell ⟨gb144, 1, none⟩ (.int .i64 t141)).setCell ⟨gb144, 2, none⟩ (.int .i64 t142)).setCell ⟨gb144, 3, none⟩ (.int .i64 t143)).heap[gb138]? = some (.cells #[.int .i64 a0_0, .int .i64 a0_1, .int .i64 a0_2, .int .i64 a0_3, .int .i64 a0_4, .bool a0_5, .bool a0_6] 37 (0, 0))) := ⟨by (with_reducible repeat (first | refine blk_drewN ?_ _ | refine blk_drew ?_ | refine blk_alloc ?_ _)); refine blk_far ?_ NB138_144.out _; (with_reducible repeat (first | refine blk_drewN ?_ _ | refine blk_drew ?_ | refine blk_alloc ?_ _)); refine blk_far ?_ NB138_144.out _; (with_reducible repeat (first | refine blk_drewN ?_ _ | refine blk_drew ?_ | refine blk_alloc ?_ _)); refine blk_far ?_ NB138_144.out _; (with_reducible repeat (first | refine blk_drewN ?_ _ | refine blk_drew ?_ | refine blk_alloc ?_ _)); refine blk_far ?_ NB138_144.out _; (with_reducible repeat (first | refine blk_drewN ?_ _ | refine blk_drew ?_ | refine blk_alloc ?_ _)); exact BK138.out⟩
    have n1_ : Aside0 (((((w12.setCell ⟨gb144, 0, none⟩ (.int .i64 t140)).setCell ⟨gb144, 1, none⟩ (.int .i64 t141)).setCell ⟨gb144, 2, none⟩ (.int .i64 t142)).setCell ⟨gb144, 3, none⟩ (.int .i64 t143)).heap[gb144]? = some (.cells #[.int .i64 t140, .int .i64 t141, .int .i64 t142, .int .i64 t143] 74 (0, 0))) := ⟨by (with_reducible repeat (first | refine blk_drewN ?_ _ | refine blk_drew ?_ | refine blk_alloc ?_ _)); refine blk_put (cs := #[.int .i64 t140, .int .i64 t141, .int .i64 t142, .int .i64 0]) ?_ 3 _ rfl; (with_reducible repeat (first | refine blk_drewN ?_ _ | refine blk_drew ?_ | refine blk_alloc ?_ _)); refine blk_put (cs := #[.int .i64 t140, .int .i64 t141, .int .i64 0, .int .i64 0]) ?_ 2 _ rfl; (with_reducible repeat (first | refine blk_drewN ?_ _ | refine blk_drew ?_ | refine blk_alloc ?_ _)); refine blk_put (cs := #[.int .i64 t140, .int .i64 0, .int .i64 0, .int .i64 0]) ?_ 1 _ rfl; (with_reducible repeat (first | refine blk_drewN ?_ _ | refine blk_drew ?_ | refine blk_alloc ?_ _)); refine blk_put (cs := #[.int .i64 0, .int .i64 0, .int .i64 0, .int .i64 0]) ?_ 0 _ rfl; (with_reducible repeat (first | refine blk_drewN ?_ _ | refine blk_drew ?_ | refine blk_alloc ?_ _)); exact BK144.out⟩
    have n2_ : Aside0 (Below w.heap.size w ((((w12.setCell ⟨gb144, 0, none⟩ (.int .i64 t140)).setCell ⟨gb144, 1, none⟩ (.int .i64 t141)).setCell ⟨gb144, 2, none⟩ (.int .i64 t142)).setCell ⟨gb144, 3, none⟩ (.int .i64 t143))) := ⟨by repeat (first | (with_reducible first | exact HB.out | apply below_alloc | apply pw_below_drewN | apply below_drew1 | refine below_set ?_ GE138.out | refine below_set ?_ GE144.out) | exact HB.out)⟩
    (try clear BK138)
    (try clear BK144)
    (try clear HB)
    generalize ((((w12.setCell ⟨gb144, 0, none⟩ (.int .i64 t140)).setCell ⟨gb144, 1, none⟩ (.int .i64 t141)).setCell ⟨gb144, 2, none⟩ (.int .i64 t142)).setCell ⟨gb144, 3, none⟩ (.int .i64 t143)) = w15 at n0_ n1_ n2_ ⊢
    have BK138 := n0_
    have BK144 := n1_
    have HB := n2_
    clear n0_ n1_ n2_
    have n0_ := Aside0.mk (blk_drew BK138.out)
    have n1_ := Aside0.mk (blk_drew BK144.out)
    have n2_ := Aside0.mk (below_drew1 HB.out)
    clear BK138
    clear BK144
    clear HB
    have BK138 := n0_
    have BK144 := n1_
    have HB := n2_
    clear n0_ n1_ n2_
    refine start_ (n := 23) (S := fun w' => w'.cell? ⟨gb144, 0, none⟩ = some (.int .i64 t140) ∧ w'.cell? ⟨gb144, 1, none⟩ = some (.int .i64 t141) ∧ w'.cell? ⟨gb144, 2, none⟩ = some (.int .i64 t142) ∧ w'.cell? ⟨gb144, 3, none⟩ = some (.int .i64 t143) ∧ w'.cell? ⟨gb138, 0, none⟩ = some (.int .i64 a0_0) ∧ w'.cell? ⟨gb138, 1, none⟩ = some (.int .i64 a0_1) ∧ w'.cell? ⟨gb138, 2, none⟩ = some (.int .i64 a0_2) ∧ w'.cell? ⟨gb138, 3, none⟩ = some (.int .i64 a0_3) ∧ w'.cell? ⟨gb138, 4, none⟩ = some (.int .i64 a0_4) ∧ w'.cell? ⟨gb138, 5, none⟩ = some (.bool a0_5) ∧ w'.cell? ⟨gb138, 6, none⟩ = some (.bool a0_6)) (ds := []) #[false, false, false, false, false, false, false, false, false, false, false, false, false, false, false, false, false, false, false, false, false, false, false] (by kernel_rfl) rfl rfl ⟨(blk_cell BK144.out 0).trans rfl, (blk_cell BK144.out 1).trans rfl, (blk_cell BK144.out 2).trans rfl, (blk_cell BK144.out 3).trans rfl, (blk_cell BK138.out 0).trans rfl, (blk_cell BK138.out 1).trans rfl, (blk_cell BK138.out 2).trans rfl, (blk_cell BK138.out 3).trans rfl, (blk_cell BK138.out 4).trans rfl, (blk_cell BK138.out 5).trans rfl, (blk_cell BK138.out 6).trans rfl⟩ (fun hHeld => ?_); refine with_tabW inst_Encode0.tab4 inst_Encode0.bits4 (fun HT_ HW_ => ?_)
    generalize w15.drew = w16 at BK138 BK144 HB hHeld ⊢
    refine pure_ (i := 0) (N := some 14) (v := ?_) (a' := ?_) #[true, false, false, false, false, false, false, false, false, false, false, false, false, false, false, false, false, false, false, false, false, false, false] rfl rfl (any_of HT_.out (by kernel_rfl)) (fun _ _ _ h => h) (Or.inl ⟨by rfl, ?_⟩) ?_ ?_
    rotate_left
    · intro w'
      go_simp
      with_reducible rfl
    rotate_left
    · simp only [Act.put, List.setIfInBounds_toArray, List.set_cons_zero, List.set_cons_succ, i64_w, i32_w]
      rfl
    refine pure_ (i := 2) (N := some 16) (v := ?_) (a' := ?_) #[true, false, true, false, false, false, false, false, false, false, false, false, false, false, false, false, false, false, false, false, false, false, false] rfl rfl (any_of HT_.out (by kernel_rfl)) (fun _ _ _ h => h) (Or.inl ⟨by rfl, ?_⟩) ?_ ?_
    rotate_left
    · intro w'
      go_simp
      with_reducible rfl
    rotate_left
    · simp only [Act.put, List.setIfInBounds_toArray, List.set_cons_zero, List.set_cons_succ, i64_w, i32_w]
      rfl
    refine pure_ (i := 6) (N := some 20) (v := ?_) (a' := ?_) #[true, false, true, false, false, false, true, false, false, false, false, false, false, false, false, false, false, false, false, false, false, false, false] rfl rfl (any_of HT_.out (by kernel_rfl)) (fun _ _ _ h => h) (Or.inl ⟨by rfl, ?_⟩) ?_ ?_
    rotate_left
    · intro w'
      go_simp
      with_reducible rfl
    rotate_left
    · simp only [Act.put, List.setIfInBounds_toArray, List.set_cons_zero, List.set_cons_succ, i64_w, i32_w]
      rfl
    refine pure_ (i := 10) (N := some 24) (v := ?_) (a' := ?_) #[true, false, true, false, false, false, true, false, false, false, true, false, false, false, false, false, false, false, false, false, false, false, false] rfl rfl (any_of HT_.out (by kernel_rfl)) (fun _ _ _ h => h) (Or.inl ⟨by rfl, ?_⟩) ?_ ?_
    rotate_left
    · intro w'
      go_simp
      with_reducible rfl
    rotate_left
    · simp only [Act.put, List.setIfInBounds_toArray, List.set_cons_zero, List.set_cons_succ, i64_w, i32_w]
      rfl
    refine pure_ (i := 14) (N := some 28) (v := ?_) (a' := ?_) #[true, false, true, false, false, false, true, false, false, false, true, false, false, false, true, false, false, false, false, false, false, false, false] rfl rfl (any_of HT_.out (by kernel_rfl)) (fun _ _ _ h => h) (Or.inl ⟨by rfl, ?_⟩) ?_ ?_
    rotate_left
    · intro w'
      go_simp
      with_reducible rfl
    rotate_left
    · simp only [Act.put, List.setIfInBounds_toArray, List.set_cons_zero, List.set_cons_succ, i64_w, i32_w]
      rfl
    refine take_ (i := 1) (N := some 15) (v := ?_) (a' := ?_) #[true, true, true, false, false, false, true, false, false, false, true, false, false, false, true, false, false, false, false, false, false, false, false] rfl rfl (take_ofW HT_.out HW_.out (by kernel_rfl)) (fun _ _ _ h => h) (Or.inl ⟨by rfl, ?_⟩) hHeld ?_ ?_
    rotate_left
    · rintro w' ⟨s0, s1, s2, s3, s4, s5, s6, s7, s8, s9, s10⟩
      go_simp
      with_reducible rfl
    rotate_left
    · simp only [Act.put, List.setIfInBounds_toArray, List.set_cons_zero, List.set_cons_succ, i64_w, i32_w]
      rfl
    refine take_ (i := 3) (N := some 17) (v := ?_) (a' := ?_) #[true, true, true, true, false, false, true, false, false, false, true, false, false, false, true, false, false, false, false, false, false, false, false] rfl rfl (take_ofW HT_.out HW_.out (by kernel_rfl)) (fun _ _ _ h => h) (Or.inl ⟨by rfl, ?_⟩) hHeld ?_ ?_
    rotate_left
    · rintro w' ⟨s0, s1, s2, s3, s4, s5, s6, s7, s8, s9, s10⟩
      go_simp
      with_reducible rfl
    rotate_left
    · simp only [Act.put, List.setIfInBounds_toArray, List.set_cons_zero, List.set_cons_succ, i64_w, i32_w]
      rfl
    refine pure_ (i := 4) (N := some 18) (v := ?_) (a' := ?_) #[true, true, true, true, true, false, true, false, false, false, true, false, false, false, true, false, false, false, false, false, false, false, false] rfl rfl (any_of HT_.out (by kernel_rfl)) (fun _ _ _ h => h) (Or.inl ⟨by rfl, ?_⟩) ?_ ?_
    rotate_left
    · intro w'
      go_simp
      with_reducible rfl
    rotate_left
    · simp only [Act.put, List.setIfInBounds_toArray, List.set_cons_zero, List.set_cons_succ, i64_w, i32_w]
      rfl
    refine pure_ (i := 5) (N := some 19) (v := ?_) (a' := ?_) #[true, true, true, true, true, true, true, false, false, false, true, false, false, false, true, false, false, false, false, false, false, false, false] rfl rfl (any_of HT_.out (by kernel_rfl)) (fun _ _ _ h => h) (Or.inl ⟨by rfl, ?_⟩) ?_ ?_
    rotate_left
    · intro w'
      go_simp
      with_reducible rfl
    rotate_left
    · simp only [Act.put, List.setIfInBounds_toArray, List.set_cons_zero, List.set_cons_succ, i64_w, i32_w]
      rfl
    refine take_ (i := 7) (N := some 21) (v := ?_) (a' := ?_) #[true, true, true, true, true, true, true, true, false, false, true, false, false, false, true, false, false, false, false, false, false, false, false] rfl rfl (take_ofW HT_.out HW_.out (by kernel_rfl)) (fun _ _ _ h => h) (Or.inl ⟨by rfl, ?_⟩) hHeld ?_ ?_
    rotate_left
    · rintro w' ⟨s0, s1, s2, s3, s4, s5, s6, s7, s8, s9, s10⟩
      go_simp
      with_reducible rfl
    rotate_left
    · simp only [Act.put, List.setIfInBounds_toArray, List.set_cons_zero, List.set_cons_succ, i64_w, i32_w]
      rfl
    refine pure_ (i := 8) (N := some 22) (v := ?_) (a' := ?_) #[true, true, true, true, true, true, true, true, true, false, true, false, false, false, true, false, false, false, false, false, false, false, false] rfl rfl (any_of HT_.out (by kernel_rfl)) (fun _ _ _ h => h) (Or.inl ⟨by rfl, ?_⟩) ?_ ?_
    rotate_left
    · intro w'
      go_simp
      with_reducible rfl
    rotate_left
    · simp only [Act.put, List.setIfInBounds_toArray, List.set_cons_zero, List.set_cons_succ, i64_w, i32_w]
      rfl
    refine pure_ (i := 9) (N := some 23) (v := ?_) (a' := ?_) #[true, true, true, true, true, true, true, true, true, true, true, false, false, false, true, false, false, false, false, false, false, false, false] rfl rfl (any_of HT_.out (by kernel_rfl)) (fun _ _ _ h => h) (Or.inl ⟨by rfl, ?_⟩) ?_ ?_
    rotate_left
    · intro w'
      go_simp
      with_reducible rfl
    rotate_left
    · simp only [Act.put, List.setIfInBounds_toArray, List.set_cons_zero, List.set_cons_succ, i64_w, i32_w]
      rfl
    refine take_ (i := 11) (N := some 25) (v := ?_) (a' := ?_) #[true, true, true, true, true, true, true, true, true, true, true, true, false, false, true, false, false, false, false, false, false, false, false] rfl rfl (take_ofW HT_.out HW_.out (by kernel_rfl)) (fun _ _ _ h => h) (Or.inl ⟨by rfl, ?_⟩) hHeld ?_ ?_
    rotate_left
    · rintro w' ⟨s0, s1, s2, s3, s4, s5, s6, s7, s8, s9, s10⟩
      go_simp
      with_reducible rfl
    rotate_left
    · simp only [Act.put, List.setIfInBounds_toArray, List.set_cons_zero, List.set_cons_succ, i64_w, i32_w]
      rfl
    refine pure_ (i := 12) (N := some 26) (v := ?_) (a' := ?_) #[true, true, true, true, true, true, true, true, true, true, true, true, true, false, true, false, false, false, false, false, false, false, false] rfl rfl (any_of HT_.out (by kernel_rfl)) (fun _ _ _ h => h) (Or.inl ⟨by rfl, ?_⟩) ?_ ?_
    rotate_left
    · intro w'
      go_simp
      with_reducible rfl
    rotate_left
    · simp only [Act.put, List.setIfInBounds_toArray, List.set_cons_zero, List.set_cons_succ, i64_w, i32_w]
      rfl
    refine pure_ (i := 13) (N := some 27) (v := ?_) (a' := ?_) #[true, true, true, true, true, true, true, true, true, true, true, true, true, true, true, false, false, false, false, false, false, false, false] rfl rfl (any_of HT_.out (by kernel_rfl)) (fun _ _ _ h => h) (Or.inl ⟨by rfl, ?_⟩) ?_ ?_
    rotate_left
    · intro w'
      go_simp
      with_reducible rfl
    rotate_left
    · simp only [Act.put, List.setIfInBounds_toArray, List.set_cons_zero, List.set_cons_succ, i64_w, i32_w]
      rfl
    refine take_ (i := 15) (N := some 29) (v := ?_) (a' := ?_) #[true, true, true, true, true, true, true, true, true, true, true, true, true, true, true, true, false, false, false, false, false, false, false] rfl rfl (take_ofW HT_.out HW_.out (by kernel_rfl)) (fun _ _ _ h => h) (Or.inl ⟨by rfl, ?_⟩) hHeld ?_ ?_
    rotate_left
    · rintro w' ⟨s0, s1, s2, s3, s4, s5, s6, s7, s8, s9, s10⟩
      go_simp
      with_reducible rfl
    rotate_left
    · simp only [Act.put, List.setIfInBounds_toArray, List.set_cons_zero, List.set_cons_succ, i64_w, i32_w]
      rfl
    refine pure_ (i := 16) (N := some 30) (v := ?_) (a' := ?_) #[true, true, true, true, true, true, true, true, true, true, true, true, true, true, true, true, true, false, false, false, false, false, false] rfl rfl (any_of HT_.out (by kernel_rfl)) (fun _ _ _ h => h) (Or.inl ⟨by rfl, ?_⟩) ?_ ?_
    rotate_left
    · intro w'
      go_simp
      with_reducible rfl
    rotate_left
    · simp only [Act.put, List.setIfInBounds_toArray, List.set_cons_zero, List.set_cons_succ, i64_w, i32_w]
      rfl
    refine pure_ (i := 17) (N := some 31) (v := ?_) (a' := ?_) #[true, true, true, true, true, true, true, true, true, true, true, true, true, true, true, true, true, true, false, false, false, false, false] rfl rfl (any_of HT_.out (by kernel_rfl)) (fun _ _ _ h => h) (Or.inl ⟨by rfl, ?_⟩) ?_ ?_
    rotate_left
    · intro w'
      go_simp
      with_reducible rfl
    rotate_left
    · simp only [Act.put, List.setIfInBounds_toArray, List.set_cons_zero, List.set_cons_succ, i64_w, i32_w]
      rfl
    refine pure_ (i := 18) (N := some 32) (v := ?_) (a' := ?_) #[true, true, true, true, true, true, true, true, true, true, true, true, true, true, true, true, true, true, true, false, false, false, false] rfl rfl (any_of HT_.out (by kernel_rfl)) (fun _ _ _ h => h) (Or.inl ⟨by rfl, ?_⟩) ?_ ?_
    rotate_left
    · intro w'
      go_simp
      with_reducible rfl
    rotate_left
    · simp only [Act.put, List.setIfInBounds_toArray, List.set_cons_zero, List.set_cons_succ, i64_w, i32_w]
      rfl
    refine take_ (i := 19) (N := some 33) (v := ?_) (a' := ?_) #[true, true, true, true, true, true, true, true, true, true, true, true, true, true, true, true, true, true, true, true, false, false, false] rfl rfl (take_ofW HT_.out HW_.out (by kernel_rfl)) (fun _ _ _ h => h) (Or.inl ⟨by rfl, ?_⟩) hHeld ?_ ?_
    rotate_left
    · rintro w' ⟨s0, s1, s2, s3, s4, s5, s6, s7, s8, s9, s10⟩
      go_simp
      with_reducible rfl
    rotate_left
    · simp only [Act.put, List.setIfInBounds_toArray, List.set_cons_zero, List.set_cons_succ, i64_w, i32_w]
      rfl
    refine one_ (i := 20) (N := some 34) #[true, true, true, true, true, true, true, true, true, true, true, true, true, true, true, true, true, true, true, true, true, false, false] rfl rfl (one_of HT_.out (by kernel_rfl)) (by decide) (fun K hK => ?_)
    refine goes_ Try.func35 (by kernel_rfl) rfl #[.agg #[.int .i64 t140, .int .i64 t141, .int .i64 t142, .int .i64 t143]] (by rfl) rfl rfl (by (try simp only [List.map_toArray, List.map_cons, List.map_nil]); first | done | rfl | (simp only [List.length_drop, List.length_take]; rfl)) ?_
    with_reducible refine (inst_row_high.calls t140 t141 t142 t143 t145 _ A5.out).mono ?_
    rintro e w17 ⟨rfl, hb⟩
    refine ⟨_, rfl, ?_⟩
    have n0_ := Aside0.mk (blk_below (g := gb138) (o := .cells #[.int .i64 a0_0, .int .i64 a0_1, .int .i64 a0_2, .int .i64 a0_3, .int .i64 a0_4, .bool a0_5, .bool a0_6] 37 (0, 0)) (by (with_reducible repeat (first | refine blk_drewN ?_ _ | refine blk_drew ?_ | refine blk_alloc ?_ _)); exact BK138.out) hb)
    have n1_ := Aside0.mk (blk_below (g := gb144) (o := .cells #[.int .i64 t140, .int .i64 t141, .int .i64 t142, .int .i64 t143] 74 (0, 0)) (by (with_reducible repeat (first | refine blk_drewN ?_ _ | refine blk_drew ?_ | refine blk_alloc ?_ _)); exact BK144.out) hb)
    have n2_ := Aside0.mk (below_step (by repeat (first | (with_reducible first | exact HB.out | apply below_alloc | apply pw_below_drewN | apply below_drew1 | refine below_set ?_ GE138.out | refine below_set ?_ GE144.out) | exact HB.out)) hb)
    clear BK138
    clear BK144
    clear HB
    have BK138 := n0_
    have BK144 := n1_
    have HB := n2_
    clear n0_ n1_ n2_
    (try clear hb)
    (try clear hb2)
    (try clear hk)
    (try clear hi)
    refine hK.out _ _ ⟨(blk_cell BK144.out 0).trans rfl, (blk_cell BK144.out 1).trans rfl, (blk_cell BK144.out 2).trans rfl, (blk_cell BK144.out 3).trans rfl, (blk_cell BK138.out 0).trans rfl, (blk_cell BK138.out 1).trans rfl, (blk_cell BK138.out 2).trans rfl, (blk_cell BK138.out 3).trans rfl, (blk_cell BK138.out 4).trans rfl, (blk_cell BK138.out 5).trans rfl, (blk_cell BK138.out 6).trans rfl⟩ (fun hHeld => ?_)
    clear hK K
    refine norm_ (a' := ?_) ?_ ?_
    rotate_left
    · show Act.put _ (some 34) _ = _
      simp only [Act.put, List.setIfInBounds_toArray, List.set_cons_zero, List.set_cons_succ, i64_w, i32_w]
      rfl
    refine pure_ (i := 21) (N := some 35) (v := ?_) (a' := ?_) #[true, true, true, true, true, true, true, true, true, true, true, true, true, true, true, true, true, true, true, true, true, true, false] rfl rfl (any_of HT_.out (by kernel_rfl)) (fun _ _ _ h => h) (Or.inl ⟨by rfl, ?_⟩) ?_ ?_
    rotate_left
    · intro w'
      go_simp
      with_reducible rfl
    rotate_left
    · simp only [Act.put, List.setIfInBounds_toArray, List.set_cons_zero, List.set_cons_succ, i64_w, i32_w]
      rfl
    refine pure_ (i := 22) (N := some 5) (v := ?_) (a' := ?_) #[true, true, true, true, true, true, true, true, true, true, true, true, true, true, true, true, true, true, true, true, true, true, true] rfl rfl (any_of HT_.out (by kernel_rfl)) (fun _ _ _ h => h) (Or.inl ⟨by rfl, ?_⟩) ?_ ?_
    rotate_left
    · intro w'
      go_simp
      with_reducible rfl
    rotate_left
    · simp only [Act.put, List.setIfInBounds_toArray, List.set_cons_zero, List.set_cons_succ, i64_w, i32_w]
      rfl
    refine done_ (done_of HT_.out (by kernel_rfl)) ?_
    have hcz18_0 : w17.cell? ⟨gb144, 0, none⟩ = some (.int .i64 t140) := (blk_cell BK144.out 0).trans rfl
    have hcz18_1 : w17.cell? ⟨gb144, 1, none⟩ = some (.int .i64 t141) := (blk_cell BK144.out 1).trans rfl
    have hcz18_2 : w17.cell? ⟨gb144, 2, none⟩ = some (.int .i64 t142) := (blk_cell BK144.out 2).trans rfl
    have hcz18_3 : w17.cell? ⟨gb144, 3, none⟩ = some (.int .i64 t143) := (blk_cell BK144.out 3).trans rfl
    have hfz18_0 := blk_frozen BK144.out 0
    have hfz18_1 := blk_frozen BK144.out 1
    have hfz18_2 := blk_frozen BK144.out 2
    have hfz18_3 := blk_frozen BK144.out 3
    try go_wp2_with (first | ((with_reducible refine gate_callee (f := 36) rfl ?_); refine goesL_ (some 38) rfl rfl Try.func36 (by kernel_rfl) rfl #[.int .i64 t140] rfl (by (try simp only [List.map_toArray, List.map_cons, List.map_nil]); first | done | rfl | (simp only [List.length_drop, List.length_take]; rfl)) ?_; (with_reducible refine (inst_places.calls t140 t146 _ A6.out).mono ?_); rintro e w19 ⟨v147, rfl, ho0, hb⟩; refine ⟨_, rfl, ?_⟩; have n0_ := Aside0.mk (Kd.R_lower ho0 (below_size (by repeat (first | (with_reducible first | exact HB.out | apply below_alloc | apply pw_below_drewN | apply below_drew1 | refine below_set ?_ GE138.out | refine below_set ?_ GE144.out) | exact HB.out)))); have n1_ := Aside0.mk (blk_below (g := gb138) (o := .cells #[.int .i64 a0_0, .int .i64 a0_1, .int .i64 a0_2, .int .i64 a0_3, .int .i64 a0_4, .bool a0_5, .bool a0_6] 37 (0, 0)) (by (with_reducible repeat (first | refine blk_drewN ?_ _ | refine blk_drew ?_ | refine blk_alloc ?_ _)); exact BK138.out) hb); have n2_ := Aside0.mk (blk_below (g := gb144) (o := .cells #[.int .i64 t140, .int .i64 t141, .int .i64 t142, .int .i64 t143] 74 (0, 0)) (by (with_reducible repeat (first | refine blk_drewN ?_ _ | refine blk_drew ?_ | refine blk_alloc ?_ _)); exact BK144.out) hb); have n3_ := Aside0.mk (below_step (by repeat (first | (with_reducible first | exact HB.out | apply below_alloc | apply pw_below_drewN | apply below_drew1 | refine below_set ?_ GE138.out | refine below_set ?_ GE144.out) | exact HB.out)) hb); clear BK138; clear BK144; clear HB; have HO148 := n0_; have BK138 := n1_; have BK144 := n2_; have HB := n3_; clear n0_ n1_ n2_ n3_; (try clear hb); (try clear hb2); (try clear hk); (try clear hi); (try clear ho0); obtain ⟨Ao20, co20, eo20⟩ := Kd.R_slice HO148.out; subst eo20))
    go_loopg [5, 40] k (fun kq v5 v40 w' => ∃ (x5_1 : Int) (x40_1 : Int), v5 = .int .u64 x5_1 ∧ v40 = .int .i64 x40_1 ∧ Aside0 (inst_Encode0.l0 kq x5_1 t146 (t146.length : Int) x40_1 a0_0 a0_1 a0_2 a0_3 a0_4 a0_5 a0_6 = some (r1, r2)) ∧ Aside0 (kq ≤ k) ∧ Aside0 (Kd.R k80 80 w' w.heap.size (fun _ => True) (.slice Ao20 t146.length co20) t146) ∧ Aside0 (w'.heap[gb138]? = some (.cells #[.int .i64 a0_0, .int .i64 a0_1, .int .i64 a0_2, .int .i64 a0_3, .int .i64 a0_4, .bool a0_5, .bool a0_6] 37 (0, 0))) ∧ Aside0 (w'.heap[gb144]? = some (.cells #[.int .i64 t140, .int .i64 t141, .int .i64 t142, .int .i64 t143] 74 (0, 0))) ∧ Aside0 (Below w.heap.size w w'))
    case atStart => exact ⟨(Go.bits .or .u64 (IntKind.u64.wrap (Go.bits .or .i64 (Go.bits .or .i64 (Go.bits .or .i64 (Go.bits .or .i64 t141 (wrap64 (t142 * 4096))) (wrap64 (a0_1 * 128))) (wrap64 (a0_2 * 32768))) (wrap64 (a0_3 * 1048576)))) t145), (0), (by first | rfl | (simp; done) | (simp [*]; done)), (by first | rfl | (simp; done) | (simp [*]; done)), H', ⟨Nat.le_refl _⟩, ⟨by (with_reducible repeat (first | apply Kd.R_alloc | apply Kd.R_drewN | apply Kd.R_drew)); exact HO148.out⟩, ⟨by (with_reducible repeat (first | refine blk_drewN ?_ _ | refine blk_drew ?_ | refine blk_alloc ?_ _)); exact BK138.out⟩, ⟨by (with_reducible repeat (first | refine blk_drewN ?_ _ | refine blk_drew ?_ | refine blk_alloc ?_ _)); exact BK144.out⟩, ⟨by repeat (first | (with_reducible first | exact HB.out | apply below_alloc | apply pw_below_drewN | apply below_drew1 | refine below_set ?_ GE138.out | refine below_set ?_ GE144.out) | exact HB.out)⟩⟩
    case round =>
      clear H'
      try clear c1
      try clear c2
      try clear p2
      try clear c3
      try clear p6
      try clear c13
      try clear c20
      try clear hcz10_0
      try clear hcz10_1
      try clear hcz10_2
      try clear hcz10_3
      try clear hcz10_4
      try clear hcz10_5
      try clear hcz10_6
      try clear hcz14_0
      try clear hcz14_1
      try clear hcz14_2
      try clear hcz14_3
      try clear hcz18_0
      try clear hcz18_1
      try clear hcz18_2
      try clear hcz18_3
      try clear hcz8_0
      try clear hcz8_1
      try clear hcz8_2
      try clear hcz8_3
      try clear hcz8_4
      try clear hcz8_5
      try clear hcz8_6
      try clear hfz10_0
      try clear hfz10_1
      try clear hfz10_2
      try clear hfz10_3
      try clear hfz10_4
      try clear hfz10_5
      try clear hfz10_6
      try clear hfz14_0
      try clear hfz14_1
      try clear hfz14_2
      try clear hfz14_3
      try clear hfz18_0
      try clear hfz18_1
      try clear hfz18_2
      try clear hfz18_3
      try clear hfz8_0
      try clear hfz8_1
      try clear hfz8_2
      try clear hfz8_3
      try clear hfz8_4
      try clear hfz8_5
      try clear hfz8_6
      obtain ⟨x5_1, x40_1, rfl, rfl, HA, HK1, HO_38, BK138, BK144, HB⟩ := hrel
      cases gk with
      | zero => exact absurd HA.out (by simp [inst_Encode0.l0])
      | succ k1 =>
        have H := HA.out
        clear HA
        simp only [inst_Encode0.l0] at H
        by_cases c21 : x40_1 < (t146.length : Int)
        · rw [if_pos c21] at H
          have c21b0 : decide (x40_1 < (t146.length : Int)) = true := decide_eq_true c21
          clear c21
          by_cases c22 : 0 ≤ x40_1
          · rw [if_pos c22] at H
            have c22b0 : decide (0 ≤ x40_1) = true := decide_eq_true c22
            clear c22
            by_cases c23 : x40_1 < (t146.length : Int)
            · rw [if_pos c23] at H
              have c23b0 : decide (x40_1 < (t146.length : Int)) = true := decide_eq_true c23
              clear c23
              by_cases c24 : 0 ≤ ((rd_T80 t146 x40_1).f2)
              · rw [if_pos c24] at H
                have c24b0 := eq_true c24
                have c24b1 : decide (0 ≤ ((rd_T80 t146 x40_1).f2)) = true := decide_eq_true c24
                clear c24
                obtain ⟨ji25, hji25⟩ : ∃ j_ : Int, (shr .u64 x5_1 ((rd_T80 t146 x40_1).f2)) = j_ := ⟨_, rfl⟩
                replace H : (if 0 ≤ ((rd_T80 t146 x40_1).f0) then (if 0 ≤ ((rd_T80 t146 x40_1).f1) then ((bits_Place.f x5_1 ((rd_T80 t146 x40_1).f2) ((rd_T80 t146 x40_1).f1) (Go.bits .or .u64 (ji25) (Go.bits .and .u64 (shr .u64 (IntKind.u64.wrap (a0_4)) ((rd_T80 t146 x40_1).f0)) (IntKind.u64.wrap ((shl .u64 1 ((rd_T80 t146 x40_1).f1)) - 1))))).bind fun t151 => (inst_Encode0.l0 k1 t151 t146 (t146.length : Int) (wrap64 (x40_1 + 1)) a0_0 a0_1 a0_2 a0_3 a0_4 a0_5 a0_6)) else (none)) else (none)) = some (r1, r2) := by first | (rw [hji25] at H; exact H) | (simp only [hji25] at H ⊢; exact H)
                have hji25_ : (x5_1 / 2 ^ min ((rd_T80 t146 x40_1).f2).toNat 64) = ji25 := hji25
                have hji25z : ((rd_T80 t146 x40_1).f2) ≤ 64 → (x5_1 / 2 ^ ((rd_T80 t146 x40_1).f2).toNat) = ji25 := shr_small hji25
                by_cases c26 : 0 ≤ ((rd_T80 t146 x40_1).f0)
                · rw [if_pos c26] at H
                  have c26b0 := eq_true c26
                  have c26b1 : decide (0 ≤ ((rd_T80 t146 x40_1).f0)) = true := decide_eq_true c26
                  clear c26
                  obtain ⟨ji27, hji27⟩ : ∃ j_ : Int, (shr .u64 (IntKind.u64.wrap (a0_4)) ((rd_T80 t146 x40_1).f0)) = j_ := ⟨_, rfl⟩
                  replace H : (if 0 ≤ ((rd_T80 t146 x40_1).f1) then ((bits_Place.f x5_1 ((rd_T80 t146 x40_1).f2) ((rd_T80 t146 x40_1).f1) (Go.bits .or .u64 (ji25) (Go.bits .and .u64 (ji27) (IntKind.u64.wrap ((shl .u64 1 ((rd_T80 t146 x40_1).f1)) - 1))))).bind fun t151 => (inst_Encode0.l0 k1 t151 t146 (t146.length : Int) (wrap64 (x40_1 + 1)) a0_0 a0_1 a0_2 a0_3 a0_4 a0_5 a0_6)) else (none)) = some (r1, r2) := by first | (rw [hji27] at H; exact H) | (simp only [hji27] at H ⊢; exact H)
                  have hji27_ : ((IntKind.u64.wrap (a0_4)) / 2 ^ min ((rd_T80 t146 x40_1).f0).toNat 64) = ji27 := hji27
                  have hji27z : ((rd_T80 t146 x40_1).f0) ≤ 64 → ((IntKind.u64.wrap (a0_4)) / 2 ^ ((rd_T80 t146 x40_1).f0).toNat) = ji27 := shr_small hji27
                  by_cases c28 : 0 ≤ ((rd_T80 t146 x40_1).f1)
                  · rw [if_pos c28] at H
                    have c28b0 := eq_true c28
                    have c28b1 : decide (0 ≤ ((rd_T80 t146 x40_1).f1)) = true := decide_eq_true c28
                    clear c28
                    obtain ⟨ji29, hji29⟩ : ∃ j_ : Int, (shl .u64 1 ((rd_T80 t146 x40_1).f1)) = j_ := ⟨_, rfl⟩
                    replace H : ((bits_Place.f x5_1 ((rd_T80 t146 x40_1).f2) ((rd_T80 t146 x40_1).f1) (Go.bits .or .u64 (ji25) (Go.bits .and .u64 (ji27) (IntKind.u64.wrap ((ji29) - 1))))).bind fun t151 => (inst_Encode0.l0 k1 t151 t146 (t146.length : Int) (wrap64 (x40_1 + 1)) a0_0 a0_1 a0_2 a0_3 a0_4 a0_5 a0_6)) = some (r1, r2) := by first | (rw [hji29] at H; exact H) | (simp only [hji29] at H ⊢; exact H)
                    have hji29_ : (IntKind.u64.wrap (1 * 2 ^ min ((rd_T80 t146 x40_1).f1).toNat 64)) = ji29 := hji29
                    have hji29z : ((rd_T80 t146 x40_1).f1) ≤ 64 → (IntKind.u64.wrap (1 * 2 ^ ((rd_T80 t146 x40_1).f1).toNat)) = ji29 := shl_small hji29
                    have hji29u : (IntKind.u64.wrap (2 ^ min ((rd_T80 t146 x40_1).f1).toNat 64)) = ji29 := by have h_ := hji29_; rw [Int.one_mul] at h_; exact h_
                    have hji29v : ((rd_T80 t146 x40_1).f1) ≤ 64 → (IntKind.u64.wrap (2 ^ ((rd_T80 t146 x40_1).f1).toNat)) = ji29 := fun hle_ => by have h_ := hji29z hle_; rw [Int.one_mul] at h_; exact h_
                    replace H := Option.bind_eq_some_iff.mp H
                    obtain ⟨t151, A300, H⟩ := H
                    replace H : (inst_Encode0.l0 k1 t151 t146 (t146.length : Int) (wrap64 (x40_1 + 1)) a0_0 a0_1 a0_2 a0_3 a0_4 a0_5 a0_6) = some (r1, r2) := H
                    have A30 := Aside0.mk A300
                    clear A300
                    have H' := Aside0.mk H
                    clear H
                    have p149 : 0 ≤ (x40_1 : Int) := of_decide_eq_true (by first | (with_reducible assumption) | assumption)
                    have q149 : x40_1 < (t146.length : Int) := of_decide_eq_true (by first | (with_reducible assumption) | assumption)
                    obtain ⟨ad149, e149, hx149_0, hx149_1, hx149_2⟩ := at_T80 (Kd.R_reads' HO_38.out).2.2 x40_1 p149 q149
                    cases e149
                    replace p149 := eq_true p149
                    replace q149 := eq_true q149
                    try go_wp2_with (first | ((with_reducible refine gate_dst (N := 7) rfl ?_); refine box_event ?hg (N := 7) ?hd (cs := #[.int .i64 0, .int .i64 0, .int .i64 0]) (t := 80) ?hr ?_; (case hd => rfl); (case hg => rfl); (case hr => first | (go_simp; done) | (go_simp; rfl)); intro gb150 hg w31 hbox hb; have n0_ := Aside0.mk (Kd.R_below (Kd.R_elderB (by (with_reducible repeat (first | apply Kd.R_alloc | apply Kd.R_drewN | apply Kd.R_drew)); exact HO_38.out) gb150 (Nat.le_of_eq hg.symm)) hb); have n1_ := Aside0.mk (blk_below (g := gb138) (o := .cells #[.int .i64 a0_0, .int .i64 a0_1, .int .i64 a0_2, .int .i64 a0_3, .int .i64 a0_4, .bool a0_5, .bool a0_6] 37 (0, 0)) (by (with_reducible repeat (first | refine blk_drewN ?_ _ | refine blk_drew ?_ | refine blk_alloc ?_ _)); exact BK138.out) hb); have n2_ := Aside0.mk (blk_below (g := gb144) (o := .cells #[.int .i64 t140, .int .i64 t141, .int .i64 t142, .int .i64 t143] 74 (0, 0)) (by (with_reducible repeat (first | refine blk_drewN ?_ _ | refine blk_drew ?_ | refine blk_alloc ?_ _)); exact BK144.out) hb); have n3_ := Aside0.mk (below_step (by repeat (first | (with_reducible first | exact HB.out | apply below_alloc | apply pw_below_drewN | apply below_drew1 | refine below_set ?_ GE138.out | refine below_set ?_ GE144.out) | exact HB.out)) hb); have n4_ := Aside0.mk (hbox); have n5_ := Aside0.mk ((by rw [hg]; exact (below_size (by repeat (first | (with_reducible first | exact HB.out | apply below_alloc | apply pw_below_drewN | apply below_drew1 | refine below_set ?_ GE138.out | refine below_set ?_ GE144.out) | exact HB.out))) : w.heap.size ≤ gb150)); have n6_ := Aside0.mk ((by rw [hg]; exact (below_size (by repeat (first | (with_reducible first | exact HB.out | apply below_alloc | apply pw_below_drewN | apply below_drew1 | refine below_set ?_ GE138.out | refine below_set ?_ GE144.out) | exact HB.out))) : w.heap.size ≤ gb150)); have n7_ := Aside0.mk ((by rw [hg]; exact Nat.ne_of_lt (blk_lt (g := gb138) (o := .cells #[.int .i64 a0_0, .int .i64 a0_1, .int .i64 a0_2, .int .i64 a0_3, .int .i64 a0_4, .bool a0_5, .bool a0_6] 37 (0, 0)) (by (with_reducible repeat (first | refine blk_drewN ?_ _ | refine blk_drew ?_ | refine blk_alloc ?_ _)); exact BK138.out)) : gb138 ≠ gb150)); have n8_ := Aside0.mk ((by rw [hg]; exact Nat.ne_of_gt (blk_lt (g := gb138) (o := .cells #[.int .i64 a0_0, .int .i64 a0_1, .int .i64 a0_2, .int .i64 a0_3, .int .i64 a0_4, .bool a0_5, .bool a0_6] 37 (0, 0)) (by (with_reducible repeat (first | refine blk_drewN ?_ _ | refine blk_drew ?_ | refine blk_alloc ?_ _)); exact BK138.out)) : gb150 ≠ gb138)); have n9_ := Aside0.mk ((by rw [hg]; exact Nat.ne_of_lt (blk_lt (g := gb144) (o := .cells #[.int .i64 t140, .int .i64 t141, .int .i64 t142, .int .i64 t143] 74 (0, 0)) (by (with_reducible repeat (first | refine blk_drewN ?_ _ | refine blk_drew ?_ | refine blk_alloc ?_ _)); exact BK144.out)) : gb144 ≠ gb150)); have n10_ := Aside0.mk ((by rw [hg]; exact Nat.ne_of_gt (blk_lt (g := gb144) (o := .cells #[.int .i64 t140, .int .i64 t141, .int .i64 t142, .int .i64 t143] 74 (0, 0)) (by (with_reducible repeat (first | refine blk_drewN ?_ _ | refine blk_drew ?_ | refine blk_alloc ?_ _)); exact BK144.out)) : gb150 ≠ gb144)); clear HO_38; clear BK138; clear BK144; clear HB; have HO_38 := n0_; have BK138 := n1_; have BK144 := n2_; have HB := n3_; have BK150 := n4_; have GW150 := n5_; have GE150 := n6_; have NB138_150 := n7_; have NB150_138 := n8_; have NB144_150 := n9_; have NB150_144 := n10_; clear n0_ n1_ n2_ n3_ n4_ n5_ n6_ n7_ n8_ n9_ n10_; clear hb hbox hg; have hnb32 := NB150_138.out; have hnc32 := NB138_150.out; have hnb33 := NB150_144.out; have hnc33 := NB144_150.out; have hcz34_0 : w31.cell? ⟨gb150, 0, none⟩ = some (.int .i64 0) := (blk_cell BK150.out 0).trans rfl; have hcz34_1 : w31.cell? ⟨gb150, 1, none⟩ = some (.int .i64 0) := (blk_cell BK150.out 1).trans rfl; have hcz34_2 : w31.cell? ⟨gb150, 2, none⟩ = some (.int .i64 0) := (blk_cell BK150.out 2).trans rfl; have hfz34_0 := blk_frozen BK150.out 0; have hfz34_1 := blk_frozen BK150.out 1; have hfz34_2 := blk_frozen BK150.out 2))
                    have n0_ : Aside0 (Kd.R k80 80 (((w31.setCell ⟨gb150, 0, none⟩ (.int .i64 ((rd_T80 t146 x40_1).f0))).setCell ⟨gb150, 1, none⟩ (.int .i64 ((rd_T80 t146 x40_1).f1))).setCell ⟨gb150, 2, none⟩ (.int .i64 ((rd_T80 t146 x40_1).f2))) w.heap.size (fun k_ => k_ ≠ gb150) (.slice (some ad149) t146.length co20) t146) := ⟨by (with_reducible repeat (first | apply Kd.R_alloc | apply Kd.R_drewN | apply Kd.R_drew)); exact Kd.R_mono (Kd.R_far (p := ⟨gb150, 2, none⟩) (Kd.R_far (p := ⟨gb150, 1, none⟩) (Kd.R_far (p := ⟨gb150, 0, none⟩) (Kd.R_mono HO_38.out (fun k_ hk => (⟨hk, hk.2⟩ : _ ∧ k_ ≠ gb150))) (fun _ hk => hk.2) (.int .i64 ((rd_T80 t146 x40_1).f0))) (fun _ hk => hk.2) (.int .i64 ((rd_T80 t146 x40_1).f1))) (fun _ hk => hk.2) (.int .i64 ((rd_T80 t146 x40_1).f2))) (fun _ hk => hk.1.2)⟩
                    have n1_ : Aside0 ((((w31.setCell ⟨gb150, 0, none⟩ (.int .i64 ((rd_T80 t146 x40_1).f0))).setCell ⟨gb150, 1, none⟩ (.int .i64 ((rd_T80 t146 x40_1).f1))).setCell ⟨gb150, 2, none⟩ (.int .i64 ((rd_T80 t146 x40_1).f2))).heap[gb138]? = some (.cells #[.int .i64 a0_0, .int .i64 a0_1, .int .i64 a0_2, .int .i64 a0_3, .int .i64 a0_4, .bool a0_5, .bool a0_6] 37 (0, 0))) := ⟨by (with_reducible repeat (first | refine blk_drewN ?_ _ | refine blk_drew ?_ | refine blk_alloc ?_ _)); refine blk_far ?_ NB138_150.out _; (with_reducible repeat (first | refine blk_drewN ?_ _ | refine blk_drew ?_ | refine blk_alloc ?_ _)); refine blk_far ?_ NB138_150.out _; (with_reducible repeat (first | refine blk_drewN ?_ _ | refine blk_drew ?_ | refine blk_alloc ?_ _)); refine blk_far ?_ NB138_150.out _; (with_reducible repeat (first | refine blk_drewN ?_ _ | refine blk_drew ?_ | refine blk_alloc ?_ _)); exact BK138.out⟩
                    have n2_ : Aside0 ((((w31.setCell ⟨gb150, 0, none⟩ (.int .i64 ((rd_T80 t146 x40_1).f0))).setCell ⟨gb150, 1, none⟩ (.int .i64 ((rd_T80 t146 x40_1).f1))).setCell ⟨gb150, 2, none⟩ (.int .i64 ((rd_T80 t146 x40_1).f2))).heap[gb144]? = some (.cells #[.int .i64 t140, .int .i64 t141, .int .i64 t142, .int .i64 t143] 74 (0, 0))) := ⟨by (with_reducible repeat (first | refine blk_drewN ?_ _ | refine blk_drew ?_ | refine blk_alloc ?_ _)); refine blk_far ?_ NB144_150.out _; (with_reducible repeat (first | refine blk_drewN ?_ _ | refine blk_drew ?_ | refine blk_alloc ?_ _)); refine blk_far ?_ NB144_150.out _; (with_reducible repeat (first | refine blk_drewN ?_ _ | refine blk_drew ?_ | refine blk_alloc ?_ _)); refine blk_far ?_ NB144_150.out _; (with_reducible repeat (first | refine blk_drewN ?_ _ | refine blk_drew ?_ | refine blk_alloc ?_ _)); exact BK144.out⟩
                    have n3_ : Aside0 ((((w31.setCell ⟨gb150, 0, none⟩ (.int .i64 ((rd_T80 t146 x40_1).f0))).setCell ⟨gb150, 1, none⟩ (.int .i64 ((rd_T80 t146 x40_1).f1))).setCell ⟨gb150, 2, none⟩ (.int .i64 ((rd_T80 t146 x40_1).f2))).heap[gb150]? = some (.cells #[.int .i64 ((rd_T80 t146 x40_1).f0), .int .i64 ((rd_T80 t146 x40_1).f1), .int .i64 ((rd_T80 t146 x40_1).f2)] 80 (0, 0))) := ⟨by (with_reducible repeat (first | refine blk_drewN ?_ _ | refine blk_drew ?_ | refine blk_alloc ?_ _)); refine blk_put (cs := #[.int .i64 ((rd_T80 t146 x40_1).f0), .int .i64 ((rd_T80 t146 x40_1).f1), .int .i64 0]) ?_ 2 _ rfl; (with_reducible repeat (first | refine blk_drewN ?_ _ | refine blk_drew ?_ | refine blk_alloc ?_ _)); refine blk_put (cs := #[.int .i64 ((rd_T80 t146 x40_1).f0), .int .i64 0, .int .i64 0]) ?_ 1 _ rfl; (with_reducible repeat (first | refine blk_drewN ?_ _ | refine blk_drew ?_ | refine blk_alloc ?_ _)); refine blk_put (cs := #[.int .i64 0, .int .i64 0, .int .i64 0]) ?_ 0 _ rfl; (with_reducible repeat (first | refine blk_drewN ?_ _ | refine blk_drew ?_ | refine blk_alloc ?_ _)); exact BK150.out⟩
                    have n4_ : Aside0 (Below w.heap.size w (((w31.setCell ⟨gb150, 0, none⟩ (.int .i64 ((rd_T80 t146 x40_1).f0))).setCell ⟨gb150, 1, none⟩ (.int .i64 ((rd_T80 t146 x40_1).f1))).setCell ⟨gb150, 2, none⟩ (.int .i64 ((rd_T80 t146 x40_1).f2)))) := ⟨by repeat (first | (with_reducible first | exact HB.out | apply below_alloc | apply pw_below_drewN | apply below_drew1 | refine below_set ?_ GE138.out | refine below_set ?_ GE144.out | refine below_set ?_ GE150.out) | exact HB.out)⟩
                    (try clear HO_38)
                    (try clear BK138)
                    (try clear BK144)
                    (try clear BK150)
                    (try clear HB)
                    generalize (((w31.setCell ⟨gb150, 0, none⟩ (.int .i64 ((rd_T80 t146 x40_1).f0))).setCell ⟨gb150, 1, none⟩ (.int .i64 ((rd_T80 t146 x40_1).f1))).setCell ⟨gb150, 2, none⟩ (.int .i64 ((rd_T80 t146 x40_1).f2))) = w35 at n0_ n1_ n2_ n3_ n4_ ⊢
                    have HO_38 := n0_
                    have BK138 := n1_
                    have BK144 := n2_
                    have BK150 := n3_
                    have HB := n4_
                    clear n0_ n1_ n2_ n3_ n4_
                    have n0_ := Aside0.mk (Kd.R_drew HO_38.out)
                    have n1_ := Aside0.mk (blk_drew BK138.out)
                    have n2_ := Aside0.mk (blk_drew BK144.out)
                    have n3_ := Aside0.mk (blk_drew BK150.out)
                    have n4_ := Aside0.mk (below_drew1 HB.out)
                    clear HO_38
                    clear BK138
                    clear BK144
                    clear BK150
                    clear HB
                    have HO_38 := n0_
                    have BK138 := n1_
                    have BK144 := n2_
                    have BK150 := n3_
                    have HB := n4_
                    clear n0_ n1_ n2_ n3_ n4_
                    refine start_ (n := 23) (S := fun w' => w'.cell? ⟨gb150, 0, none⟩ = some (.int .i64 ((rd_T80 t146 x40_1).f0)) ∧ w'.cell? ⟨gb150, 1, none⟩ = some (.int .i64 ((rd_T80 t146 x40_1).f1)) ∧ w'.cell? ⟨gb150, 2, none⟩ = some (.int .i64 ((rd_T80 t146 x40_1).f2)) ∧ w'.cell? ⟨gb138, 0, none⟩ = some (.int .i64 a0_0) ∧ w'.cell? ⟨gb138, 1, none⟩ = some (.int .i64 a0_1) ∧ w'.cell? ⟨gb138, 2, none⟩ = some (.int .i64 a0_2) ∧ w'.cell? ⟨gb138, 3, none⟩ = some (.int .i64 a0_3) ∧ w'.cell? ⟨gb138, 4, none⟩ = some (.int .i64 a0_4) ∧ w'.cell? ⟨gb138, 5, none⟩ = some (.bool a0_5) ∧ w'.cell? ⟨gb138, 6, none⟩ = some (.bool a0_6)) (ds := []) #[false, false, false, false, false, false, false, false, false, false, false, false, false, false, false, false, false, false, false, false, false, false, false] (by kernel_rfl) rfl rfl ⟨(blk_cell BK150.out 0).trans rfl, (blk_cell BK150.out 1).trans rfl, (blk_cell BK150.out 2).trans rfl, (blk_cell BK138.out 0).trans rfl, (blk_cell BK138.out 1).trans rfl, (blk_cell BK138.out 2).trans rfl, (blk_cell BK138.out 3).trans rfl, (blk_cell BK138.out 4).trans rfl, (blk_cell BK138.out 5).trans rfl, (blk_cell BK138.out 6).trans rfl⟩ (fun hHeld => ?_); refine with_tabW inst_Encode0.tab8 inst_Encode0.bits8 (fun HT_ HW_ => ?_)
                    generalize w35.drew = w36 at HO_38 BK138 BK144 BK150 HB hHeld ⊢
                    refine pure_ (i := 0) (N := some 44) (v := ?_) (a' := ?_) #[true, false, false, false, false, false, false, false, false, false, false, false, false, false, false, false, false, false, false, false, false, false, false] rfl rfl (any_of HT_.out (by kernel_rfl)) (fun _ _ _ h => h) (Or.inl ⟨by rfl, ?_⟩) ?_ ?_
                    rotate_left
                    · intro w'
                      go_simp
                      with_reducible rfl
                    rotate_left
                    · simp only [Act.put, List.setIfInBounds_toArray, List.set_cons_zero, List.set_cons_succ, i64_w, i32_w]
                      rfl
                    refine pure_ (i := 1) (N := some 45) (v := ?_) (a' := ?_) #[true, true, false, false, false, false, false, false, false, false, false, false, false, false, false, false, false, false, false, false, false, false, false] rfl rfl (any_of HT_.out (by kernel_rfl)) (fun _ _ _ h => h) (Or.inl ⟨by rfl, ?_⟩) ?_ ?_
                    rotate_left
                    · intro w'
                      go_simp
                      with_reducible rfl
                    rotate_left
                    · simp only [Act.put, List.setIfInBounds_toArray, List.set_cons_zero, List.set_cons_succ, i64_w, i32_w]
                      rfl
                    refine pure_ (i := 3) (N := some 47) (v := ?_) (a' := ?_) #[true, true, false, true, false, false, false, false, false, false, false, false, false, false, false, false, false, false, false, false, false, false, false] rfl rfl (any_of HT_.out (by kernel_rfl)) (fun _ _ _ h => h) (Or.inl ⟨by rfl, ?_⟩) ?_ ?_
                    rotate_left
                    · intro w'
                      go_simp
                      with_reducible rfl
                    rotate_left
                    · simp only [Act.put, List.setIfInBounds_toArray, List.set_cons_zero, List.set_cons_succ, i64_w, i32_w]
                      rfl
                    refine pure_ (i := 5) (N := some 49) (v := ?_) (a' := ?_) #[true, true, false, true, false, true, false, false, false, false, false, false, false, false, false, false, false, false, false, false, false, false, false] rfl rfl (any_of HT_.out (by kernel_rfl)) (fun _ _ _ h => h) (Or.inl ⟨by rfl, ?_⟩) ?_ ?_
                    rotate_left
                    · intro w'
                      go_simp
                      with_reducible rfl
                    rotate_left
                    · simp only [Act.put, List.setIfInBounds_toArray, List.set_cons_zero, List.set_cons_succ, i64_w, i32_w]
                      rfl
                    refine pure_ (i := 6) (N := some 50) (v := ?_) (a' := ?_) #[true, true, false, true, false, true, true, false, false, false, false, false, false, false, false, false, false, false, false, false, false, false, false] rfl rfl (any_of HT_.out (by kernel_rfl)) (fun _ _ _ h => h) (Or.inl ⟨by rfl, ?_⟩) ?_ ?_
                    rotate_left
                    · intro w'
                      go_simp
                      with_reducible rfl
                    rotate_left
                    · simp only [Act.put, List.setIfInBounds_toArray, List.set_cons_zero, List.set_cons_succ, i64_w, i32_w]
                      rfl
                    refine pure_ (i := 9) (N := some 53) (v := ?_) (a' := ?_) #[true, true, false, true, false, true, true, false, false, true, false, false, false, false, false, false, false, false, false, false, false, false, false] rfl rfl (any_of HT_.out (by kernel_rfl)) (fun _ _ _ h => h) (Or.inl ⟨by rfl, ?_⟩) ?_ ?_
                    rotate_left
                    · intro w'
                      go_simp
                      with_reducible rfl
                    rotate_left
                    · simp only [Act.put, List.setIfInBounds_toArray, List.set_cons_zero, List.set_cons_succ, i64_w, i32_w]
                      rfl
                    refine pure_ (i := 12) (N := some 56) (v := ?_) (a' := ?_) #[true, true, false, true, false, true, true, false, false, true, false, false, true, false, false, false, false, false, false, false, false, false, false] rfl rfl (any_of HT_.out (by kernel_rfl)) (fun _ _ _ h => h) (Or.inl ⟨by rfl, ?_⟩) ?_ ?_
                    rotate_left
                    · intro w'
                      go_simp
                      with_reducible rfl
                    rotate_left
                    · simp only [Act.put, List.setIfInBounds_toArray, List.set_cons_zero, List.set_cons_succ, i64_w, i32_w]
                      rfl
                    refine pure_ (i := 15) (N := some 59) (v := ?_) (a' := ?_) #[true, true, false, true, false, true, true, false, false, true, false, false, true, false, false, true, false, false, false, false, false, false, false] rfl rfl (any_of HT_.out (by kernel_rfl)) (fun _ _ _ h => h) (Or.inl ⟨by rfl, ?_⟩) ?_ ?_
                    rotate_left
                    · intro w'
                      go_simp
                      with_reducible rfl
                    rotate_left
                    · simp only [Act.put, List.setIfInBounds_toArray, List.set_cons_zero, List.set_cons_succ, i64_w, i32_w]
                      rfl
                    refine take_ (i := 2) (N := some 46) (v := ?_) (a' := ?_) #[true, true, true, true, false, true, true, false, false, true, false, false, true, false, false, true, false, false, false, false, false, false, false] rfl rfl (take_ofW HT_.out HW_.out (by kernel_rfl)) (fun _ _ _ h => h) (Or.inl ⟨by rfl, ?_⟩) hHeld ?_ ?_
                    rotate_left
                    · rintro w' ⟨s0, s1, s2, s3, s4, s5, s6, s7, s8, s9⟩
                      go_simp
                      with_reducible rfl
                    rotate_left
                    · simp only [Act.put, List.setIfInBounds_toArray, List.set_cons_zero, List.set_cons_succ, i64_w, i32_w]
                      rfl
                    refine take_ (i := 4) (N := some 48) (v := ?_) (a' := ?_) #[true, true, true, true, true, true, true, false, false, true, false, false, true, false, false, true, false, false, false, false, false, false, false] rfl rfl (take_ofW HT_.out HW_.out (by kernel_rfl)) (fun _ _ _ h => h) (Or.inl ⟨by rfl, ?_⟩) hHeld ?_ ?_
                    rotate_left
                    · rintro w' ⟨s0, s1, s2, s3, s4, s5, s6, s7, s8, s9⟩
                      go_simp
                      with_reducible rfl
                    rotate_left
                    · simp only [Act.put, List.setIfInBounds_toArray, List.set_cons_zero, List.set_cons_succ, i64_w, i32_w]
                      rfl
                    refine take_ (i := 7) (N := some 51) (v := ?_) (a' := ?_) #[true, true, true, true, true, true, true, true, false, true, false, false, true, false, false, true, false, false, false, false, false, false, false] rfl rfl (take_ofW HT_.out HW_.out (by kernel_rfl)) (fun _ _ _ h => h) (Or.inl ⟨by rfl, ?_⟩) hHeld ?_ ?_
                    rotate_left
                    · rintro w' ⟨s0, s1, s2, s3, s4, s5, s6, s7, s8, s9⟩
                      go_simp
                      with_reducible rfl
                    rotate_left
                    · simp only [Act.put, List.setIfInBounds_toArray, List.set_cons_zero, List.set_cons_succ, i64_w, i32_w]
                      rfl
                    refine pure_ (i := 8) (N := some 52) (v := ?_) (a' := ?_) #[true, true, true, true, true, true, true, true, true, true, false, false, true, false, false, true, false, false, false, false, false, false, false] rfl rfl (any_of HT_.out (by kernel_rfl)) (fun _ _ _ h => h) (Or.inl ⟨by rfl, ?_⟩) ?_ ?_
                    rotate_left
                    · intro w'
                      go_simp
                      with_reducible rfl
                    rotate_left
                    · simp only [Act.put, List.setIfInBounds_toArray, List.set_cons_zero, List.set_cons_succ, i64_w, i32_w]
                      rfl
                    refine take_ (i := 10) (N := some 54) (v := ?_) (a' := ?_) #[true, true, true, true, true, true, true, true, true, true, true, false, true, false, false, true, false, false, false, false, false, false, false] rfl rfl (take_ofW HT_.out HW_.out (by kernel_rfl)) (fun _ _ _ h => h) (Or.inl ⟨by rfl, ?_⟩) hHeld ?_ ?_
                    rotate_left
                    · rintro w' ⟨s0, s1, s2, s3, s4, s5, s6, s7, s8, s9⟩
                      go_simp
                      with_reducible rfl
                    rotate_left
                    · simp only [Act.put, List.setIfInBounds_toArray, List.set_cons_zero, List.set_cons_succ, i64_w, i32_w]
                      rfl
                    refine pure_ (i := 11) (N := some 55) (v := ?_) (a' := ?_) #[true, true, true, true, true, true, true, true, true, true, true, true, true, false, false, true, false, false, false, false, false, false, false] rfl rfl (any_of HT_.out (by kernel_rfl)) (fun _ _ _ h => h) (Or.inl ⟨by rfl, ?_⟩) ?_ ?_
                    rotate_left
                    · intro w'
                      go_simp
                      with_reducible rfl
                    rotate_left
                    · simp only [Act.put, List.setIfInBounds_toArray, List.set_cons_zero, List.set_cons_succ, i64_w, i32_w]
                      rfl
                    refine take_ (i := 13) (N := some 57) (v := ?_) (a' := ?_) #[true, true, true, true, true, true, true, true, true, true, true, true, true, true, false, true, false, false, false, false, false, false, false] rfl rfl (take_ofW HT_.out HW_.out (by kernel_rfl)) (fun _ _ _ h => h) (Or.inl ⟨by rfl, ?_⟩) hHeld ?_ ?_
                    rotate_left
                    · rintro w' ⟨s0, s1, s2, s3, s4, s5, s6, s7, s8, s9⟩
                      go_simp
                      with_reducible rfl
                    rotate_left
                    · simp only [Act.put, List.setIfInBounds_toArray, List.set_cons_zero, List.set_cons_succ, i64_w, i32_w]
                      rfl
                    refine pure_ (i := 14) (N := some 58) (v := ?_) (a' := ?_) #[true, true, true, true, true, true, true, true, true, true, true, true, true, true, true, true, false, false, false, false, false, false, false] rfl rfl (any_of HT_.out (by kernel_rfl)) (fun _ _ _ h => h) (Or.inl ⟨by rfl, ?_⟩) ?_ ?_
                    rotate_left
                    · intro w'
                      go_simp
                      with_reducible rfl
                    rotate_left
                    · simp only [Act.put, List.setIfInBounds_toArray, List.set_cons_zero, List.set_cons_succ, i64_w, i32_w]
                      rfl
                    refine take_ (i := 16) (N := some 60) (v := ?_) (a' := ?_) #[true, true, true, true, true, true, true, true, true, true, true, true, true, true, true, true, true, false, false, false, false, false, false] rfl rfl (take_ofW HT_.out HW_.out (by kernel_rfl)) (fun _ _ _ h => h) (Or.inl ⟨by rfl, ?_⟩) hHeld ?_ ?_
                    rotate_left
                    · rintro w' ⟨s0, s1, s2, s3, s4, s5, s6, s7, s8, s9⟩
                      go_simp
                      with_reducible rfl
                    rotate_left
                    · simp only [Act.put, List.setIfInBounds_toArray, List.set_cons_zero, List.set_cons_succ, i64_w, i32_w]
                      rfl
                    refine pure_ (i := 17) (N := some 61) (v := ?_) (a' := ?_) #[true, true, true, true, true, true, true, true, true, true, true, true, true, true, true, true, true, true, false, false, false, false, false] rfl rfl (any_of HT_.out (by kernel_rfl)) (fun _ _ _ h => h) (Or.inl ⟨by rfl, ?_⟩) ?_ ?_
                    rotate_left
                    · intro w'
                      go_simp
                      with_reducible rfl
                    rotate_left
                    · simp only [Act.put, List.setIfInBounds_toArray, List.set_cons_zero, List.set_cons_succ, i64_w, i32_w]
                      rfl
                    refine pure_ (i := 18) (N := some 62) (v := ?_) (a' := ?_) #[true, true, true, true, true, true, true, true, true, true, true, true, true, true, true, true, true, true, true, false, false, false, false] rfl rfl (any_of HT_.out (by kernel_rfl)) (fun _ _ _ h => h) (Or.inl ⟨by rfl, ?_⟩) ?_ ?_
                    rotate_left
                    · intro w'
                      go_simp
                      with_reducible rfl
                    rotate_left
                    · simp only [Act.put, List.setIfInBounds_toArray, List.set_cons_zero, List.set_cons_succ, i64_w, i32_w]
                      rfl
                    refine pure_ (i := 19) (N := some 63) (v := ?_) (a' := ?_) #[true, true, true, true, true, true, true, true, true, true, true, true, true, true, true, true, true, true, true, true, false, false, false] rfl rfl (any_of HT_.out (by kernel_rfl)) (fun _ _ _ h => h) (Or.inl ⟨by rfl, ?_⟩) ?_ ?_
                    rotate_left
                    · intro w'
                      go_simp
                      with_reducible rfl
                    rotate_left
                    · simp only [Act.put, List.setIfInBounds_toArray, List.set_cons_zero, List.set_cons_succ, i64_w, i32_w]
                      rfl
                    refine pure_ (i := 20) (N := some 64) (v := ?_) (a' := ?_) #[true, true, true, true, true, true, true, true, true, true, true, true, true, true, true, true, true, true, true, true, true, false, false] rfl rfl (any_of HT_.out (by kernel_rfl)) (fun _ _ _ h => h) (Or.inl ⟨by rfl, ?_⟩) ?_ ?_
                    rotate_left
                    · intro w'
                      go_simp
                      with_reducible rfl
                    rotate_left
                    · simp only [Act.put, List.setIfInBounds_toArray, List.set_cons_zero, List.set_cons_succ, i64_w, i32_w]
                      rfl
                    refine one_ (i := 21) (N := some 65) #[true, true, true, true, true, true, true, true, true, true, true, true, true, true, true, true, true, true, true, true, true, true, false] rfl rfl (one_of HT_.out (by kernel_rfl)) (by decide) (fun K hK => ?_)
                    refine goes_ Try.func37 (by kernel_rfl) rfl #[.int .u64 x5_1, .int .i64 ((rd_T80 t146 x40_1).f2), .int .i64 ((rd_T80 t146 x40_1).f1), .int .u64 (Go.bits .or .u64 (ji25) (Go.bits .and .u64 (ji27) (IntKind.u64.wrap ((ji29) - 1))))] (by rfl) rfl rfl (by (try simp only [List.map_toArray, List.map_cons, List.map_nil]); first | done | (simp only [hji25, hji27, hji29]; rfl) | rfl | (simp only [List.length_drop, List.length_take]; rfl)) ?_
                    with_reducible refine (bits_Place.calls x5_1 ((rd_T80 t146 x40_1).f2) ((rd_T80 t146 x40_1).f1) (Go.bits .or .u64 (ji25) (Go.bits .and .u64 (ji27) (IntKind.u64.wrap ((ji29) - 1)))) t151 _ A30.out).mono ?_
                    rintro e w' ⟨rfl, ⟨nd, rfl⟩⟩
                    refine ⟨_, rfl, ?_⟩
                    refine hK.out _ _ ⟨(blk_cell BK150.out 0).trans rfl, (blk_cell BK150.out 1).trans rfl, (blk_cell BK150.out 2).trans rfl, (blk_cell BK138.out 0).trans rfl, (blk_cell BK138.out 1).trans rfl, (blk_cell BK138.out 2).trans rfl, (blk_cell BK138.out 3).trans rfl, (blk_cell BK138.out 4).trans rfl, (blk_cell BK138.out 5).trans rfl, (blk_cell BK138.out 6).trans rfl⟩ (fun hHeld => ?_)
                    clear hK K
                    refine norm_ (a' := ?_) ?_ ?_
                    rotate_left
                    · show Act.put _ (some 65) _ = _
                      simp only [Act.put, List.setIfInBounds_toArray, List.set_cons_zero, List.set_cons_succ, i64_w, i32_w]
                      rfl
                    refine pure_ (i := 22) (N := some 5) (v := ?_) (a' := ?_) #[true, true, true, true, true, true, true, true, true, true, true, true, true, true, true, true, true, true, true, true, true, true, true] rfl rfl (any_of HT_.out (by kernel_rfl)) (fun _ _ _ h => h) (Or.inl ⟨by rfl, ?_⟩) ?_ ?_
                    rotate_left
                    · intro w'
                      go_simp
                      with_reducible rfl
                    rotate_left
                    · simp only [Act.put, List.setIfInBounds_toArray, List.set_cons_zero, List.set_cons_succ, i64_w, i32_w]
                      rfl
                    refine done_ (done_of HT_.out (by kernel_rfl)) ?_
                    try go_wp2
                    go_roundg k1
                    case measure => have := HK1.out; omega
                    case rel => exact ⟨(t151), (wrap64 (x40_1 + 1)), (by first | rfl | (simp; done) | (simp [*]; done)), (by first | rfl | (simp; done) | (simp [*]; done)), H', ⟨by have := HK1.out; omega⟩, ⟨by (with_reducible repeat (first | apply Kd.R_alloc | apply Kd.R_drewN | apply Kd.R_drew)); exact Kd.R_mono HO_38.out (fun _ hk => trivial)⟩, ⟨by (with_reducible repeat (first | refine blk_drewN ?_ _ | refine blk_drew ?_ | refine blk_alloc ?_ _)); exact BK138.out⟩, ⟨by (with_reducible repeat (first | refine blk_drewN ?_ _ | refine blk_drew ?_ | refine blk_alloc ?_ _)); exact BK144.out⟩, ⟨by repeat (first | (with_reducible first | exact HB.out | apply below_alloc | apply pw_below_drewN | apply below_drew1 | refine below_set ?_ GE138.out | refine below_set ?_ GE144.out | refine below_set ?_ GE150.out) | exact HB.out)⟩⟩
                  · rw [if_neg c28] at H
                    exact absurd H (by simp)
                · rw [if_neg c26] at H
                  exact absurd H (by simp)
              · rw [if_neg c24] at H
                exact absurd H (by simp)
            · rw [if_neg c23] at H
              exact absurd H (by simp)
          · rw [if_neg c22] at H
            exact absurd H (by simp)
        · rw [if_neg c21] at H
          have c21b0 : decide (x40_1 < (t146.length : Int)) = false := decide_eq_false c21
          clear c21
          by_cases c37 : a0_5 = true
          · subst c37
            have H1 : (if a0_6 = true then (some ((Go.bits .or .u64 (Go.bits .or .u64 x5_1 67108864) 33554432) % 4294967296, 0)) else (some ((Go.bits .or .u64 x5_1 67108864) % 4294967296, 0))) = some (r1, r2) := by rw [if_pos rfl] at H; exact H
            clear H
            have H := H1
            clear H1
            by_cases c38 : a0_6 = true
            · subst c38
              have H1 : (some ((Go.bits .or .u64 (Go.bits .or .u64 x5_1 67108864) 33554432) % 4294967296, 0)) = some (r1, r2) := by rw [if_pos rfl] at H; exact H
              clear H
              have H := H1
              clear H1
              simp only [Option.some.injEq, Prod.mk.injEq] at H
              obtain ⟨rfl, rfl⟩ := H
              have hnb39 := NB138_144.out
              have hnc39 := NB144_138.out
              have hcz40_0 : wr.cell? ⟨gb138, 0, none⟩ = some (.int .i64 a0_0) := (blk_cell BK138.out 0).trans rfl
              have hcz40_1 : wr.cell? ⟨gb138, 1, none⟩ = some (.int .i64 a0_1) := (blk_cell BK138.out 1).trans rfl
              have hcz40_2 : wr.cell? ⟨gb138, 2, none⟩ = some (.int .i64 a0_2) := (blk_cell BK138.out 2).trans rfl
              have hcz40_3 : wr.cell? ⟨gb138, 3, none⟩ = some (.int .i64 a0_3) := (blk_cell BK138.out 3).trans rfl
              have hcz40_4 : wr.cell? ⟨gb138, 4, none⟩ = some (.int .i64 a0_4) := (blk_cell BK138.out 4).trans rfl
              have hcz40_5 : wr.cell? ⟨gb138, 5, none⟩ = some (.bool true) := (blk_cell BK138.out 5).trans rfl
              have hcz40_6 : wr.cell? ⟨gb138, 6, none⟩ = some (.bool true) := (blk_cell BK138.out 6).trans rfl
              have hfz40_0 := blk_frozen BK138.out 0
              have hfz40_1 := blk_frozen BK138.out 1
              have hfz40_2 := blk_frozen BK138.out 2
              have hfz40_3 := blk_frozen BK138.out 3
              have hfz40_4 := blk_frozen BK138.out 4
              have hfz40_5 := blk_frozen BK138.out 5
              have hfz40_6 := blk_frozen BK138.out 6
              go_wp2
              go_ret2
              exact ⟨by first | rfl | (simp [errW_none, errW_some] <;> rfl) | (simp [*, errW_none, errW_some] <;> rfl), by repeat (first | (with_reducible first | exact HB.out | apply below_alloc | apply pw_below_drewN | apply below_drew1 | refine below_set ?_ GE138.out | refine below_set ?_ GE144.out) | exact HB.out)⟩
            · replace c38 := Bool.eq_false_iff.mpr c38
              subst c38
              have H1 : (some ((Go.bits .or .u64 x5_1 67108864) % 4294967296, 0)) = some (r1, r2) := by rw [if_neg (show ¬ (false = true) by decide)] at H; exact H
              clear H
              have H := H1
              clear H1
              simp only [Option.some.injEq, Prod.mk.injEq] at H
              obtain ⟨rfl, rfl⟩ := H
              have hnb41 := NB138_144.out
              have hnc41 := NB144_138.out
              have hcz42_0 : wr.cell? ⟨gb138, 0, none⟩ = some (.int .i64 a0_0) := (blk_cell BK138.out 0).trans rfl
              have hcz42_1 : wr.cell? ⟨gb138, 1, none⟩ = some (.int .i64 a0_1) := (blk_cell BK138.out 1).trans rfl
              have hcz42_2 : wr.cell? ⟨gb138, 2, none⟩ = some (.int .i64 a0_2) := (blk_cell BK138.out 2).trans rfl
              have hcz42_3 : wr.cell? ⟨gb138, 3, none⟩ = some (.int .i64 a0_3) := (blk_cell BK138.out 3).trans rfl
              have hcz42_4 : wr.cell? ⟨gb138, 4, none⟩ = some (.int .i64 a0_4) := (blk_cell BK138.out 4).trans rfl
              have hcz42_5 : wr.cell? ⟨gb138, 5, none⟩ = some (.bool true) := (blk_cell BK138.out 5).trans rfl
              have hcz42_6 : wr.cell? ⟨gb138, 6, none⟩ = some (.bool false) := (blk_cell BK138.out 6).trans rfl
              have hfz42_0 := blk_frozen BK138.out 0
              have hfz42_1 := blk_frozen BK138.out 1
              have hfz42_2 := blk_frozen BK138.out 2
              have hfz42_3 := blk_frozen BK138.out 3
              have hfz42_4 := blk_frozen BK138.out 4
              have hfz42_5 := blk_frozen BK138.out 5
              have hfz42_6 := blk_frozen BK138.out 6
              go_wp2
              go_ret2
              exact ⟨by first | rfl | (simp [errW_none, errW_some] <;> rfl) | (simp [*, errW_none, errW_some] <;> rfl), by repeat (first | (with_reducible first | exact HB.out | apply below_alloc | apply pw_below_drewN | apply below_drew1 | refine below_set ?_ GE138.out | refine below_set ?_ GE144.out) | exact HB.out)⟩
          · replace c37 := Bool.eq_false_iff.mpr c37
            subst c37
            have H1 : (if a0_6 = true then (some ((Go.bits .or .u64 x5_1 33554432) % 4294967296, 0)) else (some ((x5_1) % 4294967296, 0))) = some (r1, r2) := by rw [if_neg (show ¬ (false = true) by decide)] at H; exact H
            clear H
            have H := H1
            clear H1
            by_cases c43 : a0_6 = true
            · subst c43
              have H1 : (some ((Go.bits .or .u64 x5_1 33554432) % 4294967296, 0)) = some (r1, r2) := by rw [if_pos rfl] at H; exact H
              clear H
              have H := H1
              clear H1
              simp only [Option.some.injEq, Prod.mk.injEq] at H
              obtain ⟨rfl, rfl⟩ := H
              have hnb44 := NB138_144.out
              have hnc44 := NB144_138.out
              have hcz45_0 : wr.cell? ⟨gb138, 0, none⟩ = some (.int .i64 a0_0) := (blk_cell BK138.out 0).trans rfl
              have hcz45_1 : wr.cell? ⟨gb138, 1, none⟩ = some (.int .i64 a0_1) := (blk_cell BK138.out 1).trans rfl
              have hcz45_2 : wr.cell? ⟨gb138, 2, none⟩ = some (.int .i64 a0_2) := (blk_cell BK138.out 2).trans rfl
              have hcz45_3 : wr.cell? ⟨gb138, 3, none⟩ = some (.int .i64 a0_3) := (blk_cell BK138.out 3).trans rfl
              have hcz45_4 : wr.cell? ⟨gb138, 4, none⟩ = some (.int .i64 a0_4) := (blk_cell BK138.out 4).trans rfl
              have hcz45_5 : wr.cell? ⟨gb138, 5, none⟩ = some (.bool false) := (blk_cell BK138.out 5).trans rfl
              have hcz45_6 : wr.cell? ⟨gb138, 6, none⟩ = some (.bool true) := (blk_cell BK138.out 6).trans rfl
              have hfz45_0 := blk_frozen BK138.out 0
              have hfz45_1 := blk_frozen BK138.out 1
              have hfz45_2 := blk_frozen BK138.out 2
              have hfz45_3 := blk_frozen BK138.out 3
              have hfz45_4 := blk_frozen BK138.out 4
              have hfz45_5 := blk_frozen BK138.out 5
              have hfz45_6 := blk_frozen BK138.out 6
              go_wp2
              go_ret2
              exact ⟨by first | rfl | (simp [errW_none, errW_some] <;> rfl) | (simp [*, errW_none, errW_some] <;> rfl), by repeat (first | (with_reducible first | exact HB.out | apply below_alloc | apply pw_below_drewN | apply below_drew1 | refine below_set ?_ GE138.out | refine below_set ?_ GE144.out) | exact HB.out)⟩
            · replace c43 := Bool.eq_false_iff.mpr c43
              subst c43
              have H1 : (some ((x5_1) % 4294967296, 0)) = some (r1, r2) := by rw [if_neg (show ¬ (false = true) by decide)] at H; exact H
              clear H
              have H := H1
              clear H1
              simp only [Option.some.injEq, Prod.mk.injEq] at H
              obtain ⟨rfl, rfl⟩ := H
              have hnb46 := NB138_144.out
              have hnc46 := NB144_138.out
              have hcz47_0 : wr.cell? ⟨gb138, 0, none⟩ = some (.int .i64 a0_0) := (blk_cell BK138.out 0).trans rfl
              have hcz47_1 : wr.cell? ⟨gb138, 1, none⟩ = some (.int .i64 a0_1) := (blk_cell BK138.out 1).trans rfl
              have hcz47_2 : wr.cell? ⟨gb138, 2, none⟩ = some (.int .i64 a0_2) := (blk_cell BK138.out 2).trans rfl
              have hcz47_3 : wr.cell? ⟨gb138, 3, none⟩ = some (.int .i64 a0_3) := (blk_cell BK138.out 3).trans rfl
              have hcz47_4 : wr.cell? ⟨gb138, 4, none⟩ = some (.int .i64 a0_4) := (blk_cell BK138.out 4).trans rfl
              have hcz47_5 : wr.cell? ⟨gb138, 5, none⟩ = some (.bool false) := (blk_cell BK138.out 5).trans rfl
              have hcz47_6 : wr.cell? ⟨gb138, 6, none⟩ = some (.bool false) := (blk_cell BK138.out 6).trans rfl
              have hfz47_0 := blk_frozen BK138.out 0
              have hfz47_1 := blk_frozen BK138.out 1
              have hfz47_2 := blk_frozen BK138.out 2
              have hfz47_3 := blk_frozen BK138.out 3
              have hfz47_4 := blk_frozen BK138.out 4
              have hfz47_5 := blk_frozen BK138.out 5
              have hfz47_6 := blk_frozen BK138.out 6
              go_wp2
              go_ret2
              exact ⟨by first | rfl | (simp [errW_none, errW_some] <;> rfl) | (simp [*, errW_none, errW_some] <;> rfl), by repeat (first | (with_reducible first | exact HB.out | apply below_alloc | apply pw_below_drewN | apply below_drew1 | refine below_set ?_ GE138.out | refine below_set ?_ GE144.out) | exact HB.out)⟩
  · replace c3 := Bool.eq_false_iff.mpr c3
    subst c3
    have H1 : (some (0, 20)) = some (r1, r2) := by rw [if_neg (show ¬ (false = true) by decide)] at H; exact H
    clear H
    have H := H1
    clear H1
    simp only [Option.some.injEq, Prod.mk.injEq] at H
    obtain ⟨rfl, rfl⟩ := H
    go_enter Try.func20, Try.ntmps20
    go_wp2_with (first | ((with_reducible refine gate_dst (N := 1) rfl ?_); refine box_event ?hg (N := 1) ?hd (cs := #[.int .i64 a0_0, .int .i64 a0_1, .int .i64 a0_2, .int .i64 a0_3, .int .i64 a0_4, .bool a0_5, .bool a0_6]) (t := 37) ?hr ?_; (case hd => rfl); (case hg => rfl); (case hr => first | (go_simp; done) | (go_simp; rfl)); intro gb138 hg w48 hbox hb; have n0_ := Aside0.mk (below_step (by repeat (first | (with_reducible first | exact HB.out | apply below_alloc | apply pw_below_drewN | apply below_drew1) | exact HB.out)) hb); have n1_ := Aside0.mk (hbox); have n2_ := Aside0.mk ((by rw [hg]; exact (below_size (by repeat (first | (with_reducible first | exact HB.out | apply below_alloc | apply pw_below_drewN | apply below_drew1) | exact HB.out))) : w.heap.size ≤ gb138)); have n3_ := Aside0.mk ((by rw [hg]; exact (below_size (by repeat (first | (with_reducible first | exact HB.out | apply below_alloc | apply pw_below_drewN | apply below_drew1) | exact HB.out))) : w.heap.size ≤ gb138)); clear HB; have HB := n0_; have BK138 := n1_; have GW138 := n2_; have GE138 := n3_; clear n0_ n1_ n2_ n3_; clear hb hbox hg; have hcz49_0 : w48.cell? ⟨gb138, 0, none⟩ = some (.int .i64 a0_0) := (blk_cell BK138.out 0).trans rfl; have hcz49_1 : w48.cell? ⟨gb138, 1, none⟩ = some (.int .i64 a0_1) := (blk_cell BK138.out 1).trans rfl; have hcz49_2 : w48.cell? ⟨gb138, 2, none⟩ = some (.int .i64 a0_2) := (blk_cell BK138.out 2).trans rfl; have hcz49_3 : w48.cell? ⟨gb138, 3, none⟩ = some (.int .i64 a0_3) := (blk_cell BK138.out 3).trans rfl; have hcz49_4 : w48.cell? ⟨gb138, 4, none⟩ = some (.int .i64 a0_4) := (blk_cell BK138.out 4).trans rfl; have hcz49_5 : w48.cell? ⟨gb138, 5, none⟩ = some (.bool a0_5) := (blk_cell BK138.out 5).trans rfl; have hcz49_6 : w48.cell? ⟨gb138, 6, none⟩ = some (.bool a0_6) := (blk_cell BK138.out 6).trans rfl; have hfz49_0 := blk_frozen BK138.out 0; have hfz49_1 := blk_frozen BK138.out 1; have hfz49_2 := blk_frozen BK138.out 2; have hfz49_3 := blk_frozen BK138.out 3; have hfz49_4 := blk_frozen BK138.out 4; have hfz49_5 := blk_frozen BK138.out 5; have hfz49_6 := blk_frozen BK138.out 6) | ((with_reducible refine gate_callee (f := 32) rfl ?_); refine goesL_ (some 9) rfl rfl Try.func32 (by kernel_rfl) rfl #[.agg #[.int .i64 a0_0, .int .i64 a0_1, .int .i64 a0_2, .int .i64 a0_3, .int .i64 a0_4, .bool a0_5, .bool a0_6]] rfl (by (try simp only [List.map_toArray, List.map_cons, List.map_nil]); first | done | rfl | (simp only [List.length_drop, List.length_take]; rfl)) ?_; (with_reducible refine (inst_Good.calls a0_0 a0_1 a0_2 a0_3 a0_4 a0_5 a0_6 false _ A2.out).mono ?_); rintro e w50 ⟨rfl, hb⟩; refine ⟨_, rfl, ?_⟩; have n0_ := Aside0.mk (blk_below (g := gb138) (o := .cells #[.int .i64 a0_0, .int .i64 a0_1, .int .i64 a0_2, .int .i64 a0_3, .int .i64 a0_4, .bool a0_5, .bool a0_6] 37 (0, 0)) (by (with_reducible repeat (first | refine blk_drewN ?_ _ | refine blk_drew ?_ | refine blk_alloc ?_ _)); exact BK138.out) hb); have n1_ := Aside0.mk (below_step (by repeat (first | (with_reducible first | exact HB.out | apply below_alloc | apply pw_below_drewN | apply below_drew1 | refine below_set ?_ GE138.out) | exact HB.out)) hb); clear BK138; clear HB; have BK138 := n0_; have HB := n1_; clear n0_ n1_; (try clear hb); (try clear hb2); (try clear hk); (try clear hi)))
    go_ret2
    exact ⟨by first | rfl | (simp [errW_none, errW_some] <;> rfl) | (simp [*, errW_none, errW_some] <;> rfl), by repeat (first | (with_reducible first | exact HB.out | apply below_alloc | apply pw_below_drewN | apply below_drew1 | refine below_set ?_ GE138.out) | exact HB.out)⟩
theorem or_zero (x : Int) (h : U64 x) : Go.bits .or .u64 x 0 = x := by
  have := or_add x 0 0 0 h (by decide) (by omega) (by omega)
  simpa using this
theorem shr_lit (x : Int) (k : Nat) (h : k ≤ 64) : shr .u64 x (k : Int) = x / 2 ^ k := by
  unfold shr
  rw [Int.toNat_natCast, Nat.min_eq_left (show k ≤ IntKind.u64.bits from h)]
theorem mask_lit (n : Nat) (h : n ≤ 63) : IntKind.u64.wrap (shl .u64 1 (n : Int) - 1) = 2 ^ n - 1 := by
  have hp : (2 : Int) ^ n ≤ 2 ^ 63 := ipow_le n 63 h
  have hp2 := ipos n
  unfold shl
  rw [Int.toNat_natCast, Nat.min_eq_left (show n ≤ IntKind.u64.bits by show _ ≤ 64; omega), Int.one_mul, u64w, u64w]
  omega
theorem inst_Encode0.step (k : Nat) (x imm : Int) (xs : List S80) (i low n at_ : Nat) (op rd rs1 rs2 : Int) (aq rl : Bool) (hi : xs.getD i z80 = ⟨low, n, at_⟩) (hl : i < xs.length) (hs : xs.length < 100) (hx : U64 x) (hk : at_ + n ≤ 64) (h1 : 1 ≤ n) (h2 : n ≤ 63) (hlow : low + n ≤ 64) (hz : x / 2 ^ at_ % 2 ^ n = 0) :
    inst_Encode0.l0 (k + 1) x xs (xs.length : Int) (i : Int) op rd rs1 rs2 imm aq rl = inst_Encode0.l0 k (x + imm / 2 ^ low % 2 ^ n * 2 ^ at_) xs (xs.length : Int) ((i + 1 : Nat) : Int) op rd rs1 rs2 imm aq rl := by
  have e : rd_T80 xs (i : Int) = ⟨low, n, at_⟩ := by unfold rd_T80; rw [Int.toNat_natCast]; exact hi
  obtain ⟨p1, p2⟩ := enc_put x imm at_ n low hx hk h1 h2 hlow hz
  conv => lhs; unfold inst_Encode0.l0
  rw [if_pos (by omega), if_pos (by omega), if_pos (by omega), e]
  simp only []
  rw [if_pos (by omega), if_pos (by omega), if_pos (by omega), shr_lit _ _ (by omega), shr_lit _ _ (by omega), mask_lit _ h2, bits_Place.f, if_pos ⟨hx, p1⟩, p2, Option.bind_some]
  rw [show wrap64 ((i : Int) + 1) = ((i + 1 : Nat) : Int) by unfold wrap64; omega]
theorem inst_Encode0.done (k : Nat) (x imm : Int) (xs : List S80) (op rd rs1 rs2 : Int) (aq rl : Bool) (hx : 0 ≤ x ∧ x < 4294967296) (ha : aq = true → x / 67108864 % 2 = 0) (hr : rl = true → x / 33554432 % 2 = 0) :
    inst_Encode0.l0 (k + 1) x xs (xs.length : Int) (xs.length : Int) op rd rs1 rs2 imm aq rl = some ((x + (if aq then 67108864 else 0) + (if rl then 33554432 else 0)) % 4294967296, 0) := by
  conv => lhs; unfold inst_Encode0.l0
  rw [if_neg (by omega)]
  have h1 : aq = true → Go.bits .or .u64 x 67108864 = x + 67108864 := fun h => or_add x 1 26 1 ⟨by omega, by omega⟩ (by decide) (by omega) (ha h)
  have h2 : rl = true → Go.bits .or .u64 x 33554432 = x + 33554432 := fun h => or_add x 1 25 1 ⟨by omega, by omega⟩ (by decide) (by omega) (hr h)
  have h3 : rl = true → aq = true → Go.bits .or .u64 (x + 67108864) 33554432 = x + 67108864 + 33554432 := fun h h' => or_add (x + 67108864) 1 25 1 ⟨by omega, by omega⟩ (by decide) (by omega) (by have := hr h; show _ / 33554432 % 2 = _; omega)
  cases aq <;> cases rl <;> simp_all
def inst_Encode.f (a0_0 : Int) (a0_1 : Int) (a0_2 : Int) (a0_3 : Int) (a0_4 : Int) (a0_5 : Bool) (a0_6 : Bool) : Option (Int × Int) := if I64 a0_4 then (if goodOf a0_0 a0_1 a0_2 a0_3 a0_4 a0_5 a0_6 = true then some (encOf a0_0 a0_1 a0_2 a0_3 a0_4 a0_5 a0_6, 0) else some (0, 20)) else none
theorem inst_Encode.spec (a0_0 : Int) (a0_1 : Int) (a0_2 : Int) (a0_3 : Int) (a0_4 : Int) (a0_5 : Bool) (a0_6 : Bool) (r1 r2 : Int) (h : inst_Encode.f a0_0 a0_1 a0_2 a0_3 a0_4 a0_5 a0_6 = some (r1, r2)) : ∃ k, inst_Encode0.f k a0_0 a0_1 a0_2 a0_3 a0_4 a0_5 a0_6 = some (r1, r2) := by
  unfold inst_Encode.f at h
  by_cases hI : I64 a0_4
  · rw [if_pos hI] at h
    rw [← h]
    clear h
    refine ⟨5, ?_⟩
    unfold inst_Encode0.f
    simp only [inst_Good.f, if_pos hI, Option.bind_some]
    by_cases hg : goodOf a0_0 a0_1 a0_2 a0_3 a0_4 a0_5 a0_6 = true
    · rw [if_pos hg, if_pos hg]
      have hg' := hg
      simp only [goodOf, Bool.and_eq_true, decide_eq_true_eq, regOf] at hg'
      obtain ⟨g0, g1, g2, g3, g4, g5⟩ := hg'
      have b1 : 0 ≤ a0_1 ∧ a0_1 ≤ 31 := by revert g1; split <;> simp <;> omega
      have b2 : 0 ≤ a0_2 ∧ a0_2 ≤ 31 := by revert g2; split <;> simp <;> omega
      have b3 : 0 ≤ a0_3 ∧ a0_3 ≤ 31 := by revert g3; split <;> simp <;> omega
      obtain ⟨n1, n2, n3, n4, n5, n6, n7, n8⟩ := nums_range a0_0
      simp only [inst_of.f, Option.bind_some, inst_row_high.f]
      rw [if_pos ⟨n4.1, by omega, n5⟩]
      simp only [Option.bind_some, encOf]
      generalize codeOf a0_0 = c at *
      generalize f3Of a0_0 = x3 at *
      generalize f7Of a0_0 = x7 at *
      have e1 : wrap64 (x3 * 4096) = x3 * 2 ^ 12 := by unfold wrap64; omega
      have e2 : wrap64 (a0_1 * 128) = a0_1 * 2 ^ 7 := by unfold wrap64; omega
      have e3 : wrap64 (a0_2 * 32768) = a0_2 * 2 ^ 15 := by unfold wrap64; omega
      have e4 : wrap64 (a0_3 * 1048576) = a0_3 * 2 ^ 20 := by unfold wrap64; omega
      rw [e1, e2, e3, e4, or_add_i64 c x3 12 3 (by omega) (by omega) (by omega) (by omega), or_add_i64 _ a0_1 7 5 (by omega) (by omega) (by omega) (by omega), or_add_i64 _ a0_2 15 5 (by omega) (by omega) (by omega) (by omega), or_add_i64 _ a0_3 20 5 (by omega) (by omega) (by omega) (by omega)]
      rw [show IntKind.u64.wrap (c + x3 * 2 ^ 12 + a0_1 * 2 ^ 7 + a0_2 * 2 ^ 15 + a0_3 * 2 ^ 20) = c + x3 * 4096 + a0_1 * 128 + a0_2 * 32768 + a0_3 * 1048576 by rw [u64w]; omega]
      generalize hB : c + x3 * 4096 + a0_1 * 128 + a0_2 * 32768 + a0_3 * 1048576 = B
      generalize hf : formOf a0_0 = f at *
      have hc := form_cases a0_0
      rw [hf] at hc
      rcases hc with rfl | rfl | rfl | rfl | rfl | rfl | rfl | rfl | rfl | rfl | rfl | rfl | rfl
      · omega
--BEGIN
      · -- form 1
        simp [hasRd] at g1
        simp [hasRs1] at g2
        simp [hasRs2] at g3
        simp [hasAq] at g5
        have eh : highOf 1 x7 = 0 := rfl
        rw [eh]
        rw [or_zero B (by unfold U64; omega)]
        rw [show inst_places.f 1 = some ([⟨12, 20, 12⟩] : List S80) from rfl, Option.bind_some]
        refine (inst_Encode0.step 4 _ a0_4 _ 0 12 20 12 _ _ _ _ _ _ rfl (by simp) (by simp) (by unfold U64; omega) (by omega) (by omega) (by omega) (by omega) (by omega)).trans ?_
        refine (inst_Encode0.done 3 _ a0_4 _ _ _ _ _ _ _ (by omega) (fun h => absurd (h.symm.trans g5.1) (by decide)) (fun h => absurd (h.symm.trans g5.2) (by decide))).trans ?_
        have ei : immWord 1 a0_4 = a0_4 / 4096 % 1048576 * 4096 := rfl
        rw [ei]
        rw [g5.1, g5.2]
        simp only [Bool.false_eq_true, if_false, Int.add_zero]
        refine congrArg (fun z => some (z, (0 : Int))) ?_
        (try simp only [Int.reducePow])
        omega
      · -- form 2
        simp [hasRd] at g1
        simp [hasRs1] at g2
        simp [hasRs2] at g3
        simp [hasAq] at g5
        have eh : highOf 2 x7 = 0 := rfl
        rw [eh]
        rw [or_zero B (by unfold U64; omega)]
        rw [show inst_places.f 2 = some ([⟨20, 1, 31⟩, ⟨1, 10, 21⟩, ⟨11, 1, 20⟩, ⟨12, 8, 12⟩] : List S80) from rfl, Option.bind_some]
        refine (inst_Encode0.step 4 _ a0_4 _ 0 20 1 31 _ _ _ _ _ _ rfl (by simp) (by simp) (by unfold U64; omega) (by omega) (by omega) (by omega) (by omega) (by omega)).trans ?_
        refine (inst_Encode0.step 3 _ a0_4 _ 1 1 10 21 _ _ _ _ _ _ rfl (by simp) (by simp) (by unfold U64; omega) (by omega) (by omega) (by omega) (by omega) (by omega)).trans ?_
        refine (inst_Encode0.step 2 _ a0_4 _ 2 11 1 20 _ _ _ _ _ _ rfl (by simp) (by simp) (by unfold U64; omega) (by omega) (by omega) (by omega) (by omega) (by omega)).trans ?_
        refine (inst_Encode0.step 1 _ a0_4 _ 3 12 8 12 _ _ _ _ _ _ rfl (by simp) (by simp) (by unfold U64; omega) (by omega) (by omega) (by omega) (by omega) (by omega)).trans ?_
        refine (inst_Encode0.done 0 _ a0_4 _ _ _ _ _ _ _ (by omega) (fun h => absurd (h.symm.trans g5.1) (by decide)) (fun h => absurd (h.symm.trans g5.2) (by decide))).trans ?_
        have ei : immWord 2 a0_4 = a0_4 / 1048576 % 2 * 2147483648 + a0_4 / 2 % 1024 * 2097152 + a0_4 / 2048 % 2 * 1048576 + a0_4 / 4096 % 256 * 4096 := rfl
        rw [ei]
        rw [g5.1, g5.2]
        simp only [Bool.false_eq_true, if_false, Int.add_zero]
        refine congrArg (fun z => some (z, (0 : Int))) ?_
        (try simp only [Int.reducePow])
        omega
      · -- form 3
        simp [hasRd] at g1
        simp [hasRs1] at g2
        simp [hasRs2] at g3
        simp [hasAq] at g5
        have eh : highOf 3 x7 = 0 := rfl
        rw [eh]
        rw [or_zero B (by unfold U64; omega)]
        rw [show inst_places.f 3 = some ([⟨0, 12, 20⟩] : List S80) from rfl, Option.bind_some]
        refine (inst_Encode0.step 4 _ a0_4 _ 0 0 12 20 _ _ _ _ _ _ rfl (by simp) (by simp) (by unfold U64; omega) (by omega) (by omega) (by omega) (by omega) (by omega)).trans ?_
        refine (inst_Encode0.done 3 _ a0_4 _ _ _ _ _ _ _ (by omega) (fun h => absurd (h.symm.trans g5.1) (by decide)) (fun h => absurd (h.symm.trans g5.2) (by decide))).trans ?_
        have ei : immWord 3 a0_4 = a0_4 % 4096 * 1048576 := rfl
        rw [ei]
        rw [g5.1, g5.2]
        simp only [Bool.false_eq_true, if_false, Int.add_zero]
        refine congrArg (fun z => some (z, (0 : Int))) ?_
        (try simp only [Int.reducePow])
        omega
      · -- form 4
        simp [hasRd] at g1
        simp [hasRs1] at g2
        simp [hasRs2] at g3
        simp [hasAq] at g5
        have eh : highOf 4 x7 = 0 := rfl
        rw [eh]
        rw [or_zero B (by unfold U64; omega)]
        rw [show inst_places.f 4 = some ([⟨12, 1, 31⟩, ⟨5, 6, 25⟩, ⟨1, 4, 8⟩, ⟨11, 1, 7⟩] : List S80) from rfl, Option.bind_some]
        refine (inst_Encode0.step 4 _ a0_4 _ 0 12 1 31 _ _ _ _ _ _ rfl (by simp) (by simp) (by unfold U64; omega) (by omega) (by omega) (by omega) (by omega) (by omega)).trans ?_
        refine (inst_Encode0.step 3 _ a0_4 _ 1 5 6 25 _ _ _ _ _ _ rfl (by simp) (by simp) (by unfold U64; omega) (by omega) (by omega) (by omega) (by omega) (by omega)).trans ?_
        refine (inst_Encode0.step 2 _ a0_4 _ 2 1 4 8 _ _ _ _ _ _ rfl (by simp) (by simp) (by unfold U64; omega) (by omega) (by omega) (by omega) (by omega) (by omega)).trans ?_
        refine (inst_Encode0.step 1 _ a0_4 _ 3 11 1 7 _ _ _ _ _ _ rfl (by simp) (by simp) (by unfold U64; omega) (by omega) (by omega) (by omega) (by omega) (by omega)).trans ?_
        refine (inst_Encode0.done 0 _ a0_4 _ _ _ _ _ _ _ (by omega) (fun h => absurd (h.symm.trans g5.1) (by decide)) (fun h => absurd (h.symm.trans g5.2) (by decide))).trans ?_
        have ei : immWord 4 a0_4 = a0_4 / 4096 % 2 * 2147483648 + a0_4 / 32 % 64 * 33554432 + a0_4 / 2 % 16 * 256 + a0_4 / 2048 % 2 * 128 := rfl
        rw [ei]
        rw [g5.1, g5.2]
        simp only [Bool.false_eq_true, if_false, Int.add_zero]
        refine congrArg (fun z => some (z, (0 : Int))) ?_
        (try simp only [Int.reducePow])
        omega
      · -- form 5
        simp [hasRd] at g1
        simp [hasRs1] at g2
        simp [hasRs2] at g3
        simp [hasAq] at g5
        have eh : highOf 5 x7 = 0 := rfl
        rw [eh]
        rw [or_zero B (by unfold U64; omega)]
        rw [show inst_places.f 5 = some ([⟨5, 7, 25⟩, ⟨0, 5, 7⟩] : List S80) from rfl, Option.bind_some]
        refine (inst_Encode0.step 4 _ a0_4 _ 0 5 7 25 _ _ _ _ _ _ rfl (by simp) (by simp) (by unfold U64; omega) (by omega) (by omega) (by omega) (by omega) (by omega)).trans ?_
        refine (inst_Encode0.step 3 _ a0_4 _ 1 0 5 7 _ _ _ _ _ _ rfl (by simp) (by simp) (by unfold U64; omega) (by omega) (by omega) (by omega) (by omega) (by omega)).trans ?_
        refine (inst_Encode0.done 2 _ a0_4 _ _ _ _ _ _ _ (by omega) (fun h => absurd (h.symm.trans g5.1) (by decide)) (fun h => absurd (h.symm.trans g5.2) (by decide))).trans ?_
        have ei : immWord 5 a0_4 = a0_4 / 32 % 128 * 33554432 + a0_4 % 32 * 128 := rfl
        rw [ei]
        rw [g5.1, g5.2]
        simp only [Bool.false_eq_true, if_false, Int.add_zero]
        refine congrArg (fun z => some (z, (0 : Int))) ?_
        (try simp only [Int.reducePow])
        omega
      · -- form 6
        simp [hasRd] at g1
        simp [hasRs1] at g2
        simp [hasRs2] at g3
        simp [hasAq] at g5
        have eh : highOf 6 x7 = x7 * 33554432 := rfl
        rw [eh]
        rw [show (x7 * 33554432 : Int) = x7 * 2 ^ 25 from rfl, or_add B x7 25 7 (by unfold U64; omega) (by omega) (by omega) (by omega)]
        rw [show inst_places.f 6 = some ([⟨0, 6, 20⟩] : List S80) from rfl, Option.bind_some]
        refine (inst_Encode0.step 4 _ a0_4 _ 0 0 6 20 _ _ _ _ _ _ rfl (by simp) (by simp) (by unfold U64; omega) (by omega) (by omega) (by omega) (by omega) (by omega)).trans ?_
        refine (inst_Encode0.done 3 _ a0_4 _ _ _ _ _ _ _ (by omega) (fun h => absurd (h.symm.trans g5.1) (by decide)) (fun h => absurd (h.symm.trans g5.2) (by decide))).trans ?_
        have ei : immWord 6 a0_4 = a0_4 % 64 * 1048576 := rfl
        rw [ei]
        rw [g5.1, g5.2]
        simp only [Bool.false_eq_true, if_false, Int.add_zero]
        refine congrArg (fun z => some (z, (0 : Int))) ?_
        (try simp only [Int.reducePow])
        omega
      · -- form 7
        simp [hasRd] at g1
        simp [hasRs1] at g2
        simp [hasRs2] at g3
        simp [hasAq] at g5
        have eh : highOf 7 x7 = x7 * 33554432 := rfl
        rw [eh]
        rw [show (x7 * 33554432 : Int) = x7 * 2 ^ 25 from rfl, or_add B x7 25 7 (by unfold U64; omega) (by omega) (by omega) (by omega)]
        rw [show inst_places.f 7 = some ([⟨0, 5, 20⟩] : List S80) from rfl, Option.bind_some]
        refine (inst_Encode0.step 4 _ a0_4 _ 0 0 5 20 _ _ _ _ _ _ rfl (by simp) (by simp) (by unfold U64; omega) (by omega) (by omega) (by omega) (by omega) (by omega)).trans ?_
        refine (inst_Encode0.done 3 _ a0_4 _ _ _ _ _ _ _ (by omega) (fun h => absurd (h.symm.trans g5.1) (by decide)) (fun h => absurd (h.symm.trans g5.2) (by decide))).trans ?_
        have ei : immWord 7 a0_4 = a0_4 % 32 * 1048576 := rfl
        rw [ei]
        rw [g5.1, g5.2]
        simp only [Bool.false_eq_true, if_false, Int.add_zero]
        refine congrArg (fun z => some (z, (0 : Int))) ?_
        (try simp only [Int.reducePow])
        omega
      · -- form 8
        simp [hasRd] at g1
        simp [hasRs1] at g2
        simp [hasRs2] at g3
        simp [hasAq] at g5
        have eh : highOf 8 x7 = x7 * 33554432 := rfl
        rw [eh]
        rw [show (x7 * 33554432 : Int) = x7 * 2 ^ 25 from rfl, or_add B x7 25 7 (by unfold U64; omega) (by omega) (by omega) (by omega)]
        rw [show inst_places.f 8 = some ([] : List S80) from rfl, Option.bind_some]
        refine (inst_Encode0.done 4 _ a0_4 _ _ _ _ _ _ _ (by omega) (fun h => absurd (h.symm.trans g5.1) (by decide)) (fun h => absurd (h.symm.trans g5.2) (by decide))).trans ?_
        have ei : immWord 8 a0_4 = 0 := rfl
        rw [ei]
        rw [g5.1, g5.2]
        simp only [Bool.false_eq_true, if_false, Int.add_zero]
        refine congrArg (fun z => some (z, (0 : Int))) ?_
        (try simp only [Int.reducePow])
        omega
      · -- form 9
        simp [hasRd] at g1
        simp [hasRs1] at g2
        simp [hasRs2] at g3
        simp [hasAq] at g5
        have eh : highOf 9 x7 = 0 := rfl
        rw [eh]
        rw [or_zero B (by unfold U64; omega)]
        rw [show inst_places.f 9 = some ([⟨0, 8, 20⟩] : List S80) from rfl, Option.bind_some]
        refine (inst_Encode0.step 4 _ a0_4 _ 0 0 8 20 _ _ _ _ _ _ rfl (by simp) (by simp) (by unfold U64; omega) (by omega) (by omega) (by omega) (by omega) (by omega)).trans ?_
        refine (inst_Encode0.done 3 _ a0_4 _ _ _ _ _ _ _ (by omega) (fun h => absurd (h.symm.trans g5.1) (by decide)) (fun h => absurd (h.symm.trans g5.2) (by decide))).trans ?_
        have ei : immWord 9 a0_4 = a0_4 % 256 * 1048576 := rfl
        rw [ei]
        rw [g5.1, g5.2]
        simp only [Bool.false_eq_true, if_false, Int.add_zero]
        refine congrArg (fun z => some (z, (0 : Int))) ?_
        (try simp only [Int.reducePow])
        omega
      · -- form 10
        simp [hasRd] at g1
        simp [hasRs1] at g2
        simp [hasRs2] at g3
        simp [hasAq] at g5
        have eh : highOf 10 x7 = x7 * 1048576 := rfl
        rw [eh]
        rw [show (x7 * 1048576 : Int) = x7 * 2 ^ 20 from rfl, or_add B x7 20 7 (by unfold U64; omega) (by omega) (by omega) (by omega)]
        rw [show inst_places.f 10 = some ([] : List S80) from rfl, Option.bind_some]
        refine (inst_Encode0.done 4 _ a0_4 _ _ _ _ _ _ _ (by omega) (fun h => absurd (h.symm.trans g5.1) (by decide)) (fun h => absurd (h.symm.trans g5.2) (by decide))).trans ?_
        have ei : immWord 10 a0_4 = 0 := rfl
        rw [ei]
        rw [g5.1, g5.2]
        simp only [Bool.false_eq_true, if_false, Int.add_zero]
        refine congrArg (fun z => some (z, (0 : Int))) ?_
        (try simp only [Int.reducePow])
        omega
      · -- form 11
        simp [hasRd] at g1
        simp [hasRs1] at g2
        simp [hasRs2] at g3
        clear g5
        have eh : highOf 11 x7 = x7 * 134217728 := rfl
        rw [eh]
        rw [show (x7 * 134217728 : Int) = x7 * 2 ^ 27 from rfl, or_add B x7 27 5 (by unfold U64; omega) (by omega) (by omega) (by omega)]
        rw [show inst_places.f 11 = some ([] : List S80) from rfl, Option.bind_some]
        refine (inst_Encode0.done 4 _ a0_4 _ _ _ _ _ _ _ (by omega) (fun _ => by omega) (fun _ => by omega)).trans ?_
        have ei : immWord 11 a0_4 = 0 := rfl
        rw [ei]
        have hq : 0 ≤ (if a0_5 = true then (67108864 : Int) else 0) + (if a0_6 = true then (33554432 : Int) else 0) ∧ (if a0_5 = true then (67108864 : Int) else 0) + (if a0_6 = true then (33554432 : Int) else 0) ≤ 100663296 := by split <;> split <;> omega
        refine congrArg (fun z => some (z, (0 : Int))) ?_
        (try simp only [Int.reducePow])
        omega
      · -- form 12
        simp [hasRd] at g1
        simp [hasRs1] at g2
        simp [hasRs2] at g3
        clear g5
        have eh : highOf 12 x7 = x7 * 134217728 := rfl
        rw [eh]
        rw [show (x7 * 134217728 : Int) = x7 * 2 ^ 27 from rfl, or_add B x7 27 5 (by unfold U64; omega) (by omega) (by omega) (by omega)]
        rw [show inst_places.f 12 = some ([] : List S80) from rfl, Option.bind_some]
        refine (inst_Encode0.done 4 _ a0_4 _ _ _ _ _ _ _ (by omega) (fun _ => by omega) (fun _ => by omega)).trans ?_
        have ei : immWord 12 a0_4 = 0 := rfl
        rw [ei]
        have hq : 0 ≤ (if a0_5 = true then (67108864 : Int) else 0) + (if a0_6 = true then (33554432 : Int) else 0) ∧ (if a0_5 = true then (67108864 : Int) else 0) + (if a0_6 = true then (33554432 : Int) else 0) ≤ 100663296 := by split <;> split <;> omega
        refine congrArg (fun z => some (z, (0 : Int))) ?_
        (try simp only [Int.reducePow])
        omega
--END
    · rw [if_neg hg, if_neg hg]
  · rw [if_neg hI] at h; exact absurd h (by simp)

theorem inst_Encode.calls (a0_0 : Int) (a0_1 : Int) (a0_2 : Int) (a0_3 : Int) (a0_4 : Int) (a0_5 : Bool) (a0_6 : Bool) (r1 : Int) (r2 : Int) (w : World) (h : inst_Encode.f a0_0 a0_1 a0_2 a0_3 a0_4 a0_5 a0_6 = some (r1, r2)) :
    Calls Try.prog 20 #[.agg #[.int .i64 a0_0, .int .i64 a0_1, .int .i64 a0_2, .int .i64 a0_3, .int .i64 a0_4, .bool a0_5, .bool a0_6]] w fun e w' => e = .returned (.tuple #[.int .u32 r1, .int .i64 r2]) ∧ Below w.heap.size w w' := by
  obtain ⟨k, hk⟩ := inst_Encode.spec a0_0 a0_1 a0_2 a0_3 a0_4 a0_5 a0_6 r1 r2 h
  exact inst_Encode0.calls k a0_0 a0_1 a0_2 a0_3 a0_4 a0_5 a0_6 r1 r2 w hk

end Go.Proofs.Ytcjfafhbohkhlaa.PAll
