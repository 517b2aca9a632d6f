/- DERIVED. Printed contracts of functions. -/
import Derived.Test.YtcjfafhbohkhlaaGreatPAllx0
import Derived.Test.YtcjfafhbohkhlaaGreatPAllx2
import Derived.Test.YtcjfafhbohkhlaaGreatPAllx4
import Derived.Test.YtcjfafhbohkhlaaGreatPAllx6
namespace Go.Proofs.YtcjfafhbohkhlaaGreat.PAll
open Go.RowKit Go.Proofs.YtcjfafhbohkhlaaGreatW.PrintWords Go.Proofs.YtcjfafhbohkhlaaGreatW.PrintLast Go.Proofs.YtcjfafhbohkhlaaGreatW.PrintMore Go.Proofs.YtcjfafhbohkhlaaGreat.M
attribute [local go_sem] max2_int min2_int max_two min_two max_three min_three max_four min_four
set_option linter.unusedVariables false
set_option linter.unusedSimpArgs false
def inst_Encode0.l0 : Nat → Int → List (S93) → Int → Int → Int → Int → Int → Int → Int → Bool → Bool → Option (Int × Int)
 | 0, _, _, _, _, _, _, _, _, _, _, _ => none
 | k + 1, x5, x38, x39, x40, x139000, x139001, x139002, x139003, x139004, x139005, x139006 => if x40 < x39 then (if 0 ≤ x40 then (if x40 < (x38.length : Int) then (if 0 ≤ ((rd_T93 x38 x40).f2) then (if 0 ≤ ((rd_T93 x38 x40).f0) then (if 0 ≤ ((rd_T93 x38 x40).f1) then ((bits_Place.f x5 ((rd_T93 x38 x40).f2) ((rd_T93 x38 x40).f1) (Go.bits .or .u64 (shr .u64 x5 ((rd_T93 x38 x40).f2)) (Go.bits .and .u64 (shr .u64 (IntKind.u64.wrap (x139004)) ((rd_T93 x38 x40).f0)) (IntKind.u64.wrap ((shl .u64 1 ((rd_T93 x38 x40).f1)) - 1))))).bind fun t151 => (inst_Encode0.l0 k t151 x38 x39 (wrap64 (x40 + 1)) x139000 x139001 x139002 x139003 x139004 x139005 x139006)) else (none)) else (none)) else (none)) else (none)) else (none)) else (if x139005 = true then (if x139006 = true then (some ((Go.bits .or .u64 (Go.bits .or .u64 x5 67108864) 33554432) % 4294967296, 0)) else (some ((Go.bits .or .u64 x5 67108864) % 4294967296, 0))) else (if x139006 = true then (some ((Go.bits .or .u64 x5 33554432) % 4294967296, 0)) else (some ((x5) % 4294967296, 0))))
def inst_Encode0.f (k : Nat) (a0_0 : Int) (a0_1 : Int) (a0_2 : Int) (a0_3 : Int) (a0_4 : Int) (a0_5 : Bool) (a0_6 : Bool) : Option (Int × Int) := (inst_Good.f a0_0 a0_1 a0_2 a0_3 a0_4 a0_5 a0_6).bind fun t139 => (if t139 = true then ((inst_of.f a0_0).bind fun bt140 => ((inst_row_high.f bt140.1 bt140.2.1 bt140.2.2.1 bt140.2.2.2).bind fun t145 => ((inst_places.f bt140.1).bind fun t146 => (inst_Encode0.l0 k (Go.bits .or .u64 (IntKind.u64.wrap (Go.bits .or .i64 (Go.bits .or .i64 (Go.bits .or .i64 (Go.bits .or .i64 bt140.2.1 (wrap64 (bt140.2.2.1 * 4096))) (wrap64 (a0_1 * 128))) (wrap64 (a0_2 * 32768))) (wrap64 (a0_3 * 1048576)))) t145) t146 (t146.length : Int) 0 a0_0 a0_1 a0_2 a0_3 a0_4 a0_5 a0_6)))) else (some (0, 20)))
theorem inst_Encode0.mono_l : ∀ k, (∀ y0 y1 y2 y3 y4 y5 y6 y7 y8 y9 y10, LeO (inst_Encode0.l0 k y0 y1 y2 y3 y4 y5 y6 y7 y8 y9 y10) (inst_Encode0.l0 (k + 1) y0 y1 y2 y3 y4 y5 y6 y7 y8 y9 y10))
 | 0 => fun _ _ _ _ _ _ _ _ _ _ _ r h => by simp [inst_Encode0.l0] at h
 | k + 1 => by
  have ih0 := inst_Encode0.mono_l k
  ·intro y0 y1 y2 y3 y4 y5 y6 y7 y8 y9 y10
   unfold inst_Encode0.l0
   exact leo
theorem inst_Encode0.mono : ∀ a0 a1 a2 a3 a4 a5 a6 k, LeO (inst_Encode0.f k a0 a1 a2 a3 a4 a5 a6) (inst_Encode0.f (k + 1) a0 a1 a2 a3 a4 a5 a6) := by
 intro a0 a1 a2 a3 a4 a5 a6 k
 have ih0 := inst_Encode0.mono_l k
 unfold inst_Encode0.f
 exact leo
def inst_Encode0.T4 : Bool × List (List Nat × List Nat) := (true, [([], []), ([0], [0]), ([], []), ([2], [2]), ([3], [3]), ([1, 4], [1, 4]), ([], []), ([6], [6]), ([7], [7]), ([5, 8], [5, 8]), ([], []), ([10], [10]), ([11], [11]), ([9, 12], [9, 12]), ([], []), ([14], [14]), ([15], [15]), ([13, 16], [13, 16]), ([17], [17]), ([], []), ([19], [19]), ([18, 20], [18, 20]), ([21, 20, 0, 1, 2, 3, 4, 5, 6, 7, 8, 9, 10, 11, 12, 13, 14, 15, 16, 17, 18, 19, 20, 21], [21])])
def inst_Encode0.B4 : List Nat := [0, 1, 0, 4, 12, 31, 0, 64, 192, 511, 0, 1024, 3072, 8191, 0, 16384, 49152, 131071, 262143, 0, 524288, 2097151, 4194303]
theorem inst_Encode0.tab4 : rtab .any (opsOf Tryz.f16 4) = inst_Encode0.T4 := by kernel_rfl
theorem inst_Encode0.bits4 : waitsOk inst_Encode0.T4.2 inst_Encode0.B4 = true := by kernel_rfl
def inst_Encode0.T8 : Bool × List (List Nat × List Nat) := (true, [([], []), ([], []), ([1], [1]), ([], []), ([3], [3]), ([], []), ([], []), ([6], [6]), ([5, 7], [5, 7]), ([], []), ([9], [9]), ([10], [10]), ([], []), ([12], [12]), ([11, 13], [11, 13]), ([], []), ([15], [15]), ([16], [16]), ([17], [17]), ([14, 18], [14, 18]), ([8, 19], [8, 19]), ([0, 2, 4, 20], [0, 2, 4, 20]), ([21, 21, 0, 1, 2, 3, 4, 5, 6, 7, 8, 9, 10, 11, 12, 13, 14, 15, 16, 17, 18, 19, 20, 21], [0, 5, 21])])
def inst_Encode0.B8 : List Nat := [0, 0, 2, 0, 8, 0, 0, 64, 224, 0, 512, 1536, 0, 4096, 15872, 0, 32768, 98304, 229376, 523776, 1048544, 2097151, 4194303]
theorem inst_Encode0.tab8 : rtab .any (opsOf Tryz.f16 8) = inst_Encode0.T8 := by kernel_rfl
theorem inst_Encode0.bits8 : waitsOk inst_Encode0.T8.2 inst_Encode0.B8 = true := by kernel_rfl
set_option maxHeartbeats 8000000 in
set_option maxRecDepth 100000 in
theorem inst_Encode0.calls (k : Nat) (a0_0 : Int) (a0_1 : Int) (a0_2 : Int) (a0_3 : Int) (a0_4 : Int) (a0_5 : Bool) (a0_6 : Bool) (r1 : Int) (r2 : Int) (w : World) (h : inst_Encode0.f k a0_0 a0_1 a0_2 a0_3 a0_4 a0_5 a0_6 = some (r1, r2)) :
  Calls Tryz.prog 16 #[.agg #[.int .i64 a0_0, .int .i64 a0_1, .int .i64 a0_2, .int .i64 a0_3, .int .i64 a0_4, .bool a0_5, .bool a0_6]] w fun e w' => e = .returned (.tuple #[.int .u32 r1, .int .i64 r2]) ∧ Below w.heap.size w w' := by
 have hu50 := Tryz.underlying50
 have hu87 := Tryz.underlying87
 have hu93 := Tryz.underlying93
 have HB := am (Below.refl w.heap.size w)
 have H := h
 clear h
 unfold inst_Encode0.f at H
 obtain ⟨t139, A2, H⟩ := bam H
 try dsimp only at H
 by_cases c3 : t139 = true
 ·subst c3
  rw [if_pos rfl] at H
  obtain ⟨⟨t140, t141, t142, t143⟩, A4, H⟩ := bam H
  try dsimp only at H
  obtain ⟨t145, A5, H⟩ := bam H
  try dsimp only at H
  obtain ⟨t146, A6, H⟩ := bam H
  try dsimp only at H
  have H' := am H
  clear H
  go_enter Tryz.func16, Tryz.ntmps16
  try go_wp2_with (first | ((with_reducible refine gate_dst (N := 1) rfl ?_); refine be 1 50 #[.int .i64 a0_0, .int .i64 a0_1, .int .i64 a0_2, .int .i64 a0_3, .int .i64 a0_4, .bool a0_5, .bool a0_6] ?_; intro gb138 hg w7 hbox hb; have BK138 := am hbox; have GW138 := bz HB hg; have GE138 := bz HB hg; replace HB := bn HB hb; clear hb hbox hg; obtain ⟨z8_0, z8_1, z8_2, z8_3, z8_4, z8_5, z8_6, f8_0, f8_1, f8_2, f8_3, f8_4, f8_5, f8_6⟩ := cf7 BK138) | ((with_reducible refine gate_callee (f := 39) rfl ?_); refine gl (some 9) rfl rfl Tryz.func39 rfl #[.agg #[.int .i64 a0_0, .int .i64 a0_1, .int .i64 a0_2, .int .i64 a0_3, .int .i64 a0_4, .bool a0_5, .bool a0_6]] rfl ?_; (with_reducible refine (inst_Good.calls a0_0 a0_1 a0_2 a0_3 a0_4 a0_5 a0_6 true _ A2.out).mono ?_); rintro e w9 ⟨rfl, hb⟩; refine ⟨_, rfl, ?_⟩; replace BK138 := bk BK138 hb; replace HB := bns HB GE138 hb; (try clear hb); (try clear hb2); (try clear hk); (try clear hi); obtain ⟨z10_0, z10_1, z10_2, z10_3, z10_4, z10_5, z10_6, f10_0, f10_1, f10_2, f10_3, f10_4, f10_5, f10_6⟩ := cf7 BK138) | ((with_reducible refine gate_callee (f := 40) rfl ?_); refine gl (some 13) rfl rfl Tryz.func40 rfl #[.int .i64 a0_0] rfl ?_; (with_reducible refine (inst_of.calls a0_0 t140 t141 t142 t143 _ A4.out).mono ?_); rintro e w11 ⟨rfl, hb⟩; refine ⟨_, rfl, ?_⟩; replace BK138 := bk BK138 hb; replace HB := bns HB GE138 hb; (try clear hb); (try clear hb2); (try clear hk); (try clear hi)) | ((with_reducible refine gate_dst (N := 4) rfl ?_); refine be 4 87 #[.int .i64 0, .int .i64 0, .int .i64 0, .int .i64 0] ?_; intro gb144 hg w12 hbox hb; have BK144 := am hbox; have GW144 := bzs HB GE138 hg; have GE144 := bzs HB GE138 hg; have NB138_144 := nl BK138 hg; have NB144_138 := ng BK138 hg; replace BK138 := bk BK138 hb; replace HB := bns HB GE138 hb; clear hb hbox hg; have hnb13 := NB144_138.out; have hnc13 := NB138_144.out; obtain ⟨z14_0, z14_1, z14_2, z14_3, f14_0, f14_1, f14_2, f14_3⟩ := cf4 BK144))
  have n0_ : Aside0 (((((w12.setCell ⟨gb144, 0, none⟩ (.int .i64 t140)).setCell ⟨gb144, 1, none⟩ (.int .i64 t141)).setCell ⟨gb144, 2, none⟩ (.int .i64 t142)).setCell ⟨gb144, 3, none⟩ (.int .i64 t143)).heap[gb138]? = some (.cells #[.int .i64 a0_0, .int .i64 a0_1, .int .i64 a0_2, .int .i64 a0_3, .int .i64 a0_4, .bool a0_5, .bool a0_6] 50 (0, 0))) := ⟨by refine blk_far ?_ NB138_144.out _; refine blk_far ?_ NB138_144.out _; refine blk_far ?_ NB138_144.out _; refine blk_far ?_ NB138_144.out _; exact BK138.out⟩
  have n1_ : Aside0 (((((w12.setCell ⟨gb144, 0, none⟩ (.int .i64 t140)).setCell ⟨gb144, 1, none⟩ (.int .i64 t141)).setCell ⟨gb144, 2, none⟩ (.int .i64 t142)).setCell ⟨gb144, 3, none⟩ (.int .i64 t143)).heap[gb144]? = some (.cells #[.int .i64 t140, .int .i64 t141, .int .i64 t142, .int .i64 t143] 87 (0, 0))) := ⟨by refine blk_put (cs := #[.int .i64 t140, .int .i64 t141, .int .i64 t142, .int .i64 0]) ?_ 3 _ rfl; refine blk_put (cs := #[.int .i64 t140, .int .i64 t141, .int .i64 0, .int .i64 0]) ?_ 2 _ rfl; refine blk_put (cs := #[.int .i64 t140, .int .i64 0, .int .i64 0, .int .i64 0]) ?_ 1 _ rfl; refine blk_put (cs := #[.int .i64 0, .int .i64 0, .int .i64 0, .int .i64 0]) ?_ 0 _ rfl; exact BK144.out⟩
  have n2_ : Aside0 (Below w.heap.size w ((((w12.setCell ⟨gb144, 0, none⟩ (.int .i64 t140)).setCell ⟨gb144, 1, none⟩ (.int .i64 t141)).setCell ⟨gb144, 2, none⟩ (.int .i64 t142)).setCell ⟨gb144, 3, none⟩ (.int .i64 t143))) := ⟨bs2 HB GE138 GE144⟩
  (try clear BK138)
  (try clear BK144)
  (try clear HB)
  generalize ((((w12.setCell ⟨gb144, 0, none⟩ (.int .i64 t140)).setCell ⟨gb144, 1, none⟩ (.int .i64 t141)).setCell ⟨gb144, 2, none⟩ (.int .i64 t142)).setCell ⟨gb144, 3, none⟩ (.int .i64 t143)) = w15 at n0_ n1_ n2_ ⊢
  have BK138 := n0_
  have BK144 := n1_
  have HB := n2_
  clear n0_ n1_ n2_
  have n0_ := am (blk_drew BK138.out)
  have n1_ := am (blk_drew BK144.out)
  have n2_ := am (below_drew1 HB.out)
  clear BK138
  clear BK144
  clear HB
  have BK138 := n0_
  have BK144 := n1_
  have HB := n2_
  clear n0_ n1_ n2_
  refine start_ (n := 23) (S := fun w' => w'.cell? ⟨gb144, 0, none⟩ = some (.int .i64 t140) ∧ w'.cell? ⟨gb144, 1, none⟩ = some (.int .i64 t141) ∧ w'.cell? ⟨gb144, 2, none⟩ = some (.int .i64 t142) ∧ w'.cell? ⟨gb144, 3, none⟩ = some (.int .i64 t143) ∧ w'.cell? ⟨gb138, 0, none⟩ = some (.int .i64 a0_0) ∧ w'.cell? ⟨gb138, 1, none⟩ = some (.int .i64 a0_1) ∧ w'.cell? ⟨gb138, 2, none⟩ = some (.int .i64 a0_2) ∧ w'.cell? ⟨gb138, 3, none⟩ = some (.int .i64 a0_3) ∧ w'.cell? ⟨gb138, 4, none⟩ = some (.int .i64 a0_4) ∧ w'.cell? ⟨gb138, 5, none⟩ = some (.bool a0_5) ∧ w'.cell? ⟨gb138, 6, none⟩ = some (.bool a0_6)) (ds := []) #[false, false, false, false, false, false, false, false, false, false, false, false, false, false, false, false, false, false, false, false, false, false, false] (by kernel_rfl) rfl rfl ⟨(blk_cell BK144.out 0).trans rfl, (blk_cell BK144.out 1).trans rfl, (blk_cell BK144.out 2).trans rfl, (blk_cell BK144.out 3).trans rfl, (blk_cell BK138.out 0).trans rfl, (blk_cell BK138.out 1).trans rfl, (blk_cell BK138.out 2).trans rfl, (blk_cell BK138.out 3).trans rfl, (blk_cell BK138.out 4).trans rfl, (blk_cell BK138.out 5).trans rfl, (blk_cell BK138.out 6).trans rfl⟩ (fun hHeld => ?_); refine with_tabW inst_Encode0.tab4 inst_Encode0.bits4 (fun HT_ HW_ => ?_)
  generalize w15.drew = w16 at BK138 BK144 HB hHeld ⊢
  refine pure_ (i := 0) (N := some 14) (v := ?_) (a' := ?_) #[true, false, false, false, false, false, false, false, false, false, false, false, false, false, false, false, false, false, false, false, false, false, false] rfl rfl (any_of HT_.out (by kernel_rfl)) (fun _ _ _ h => h) (Or.inl ⟨by rfl, ?_⟩) ?_ ?_
  rotate_left
  ·intro w'
   go_simp
   with_reducible rfl
  rotate_left
  ·simp only [Act.put, List.setIfInBounds_toArray, List.set_cons_zero, List.set_cons_succ, i64_w, i32_w]
   rfl
  refine pure_ (i := 2) (N := some 16) (v := ?_) (a' := ?_) #[true, false, true, false, false, false, false, false, false, false, false, false, false, false, false, false, false, false, false, false, false, false, false] rfl rfl (any_of HT_.out (by kernel_rfl)) (fun _ _ _ h => h) (Or.inl ⟨by rfl, ?_⟩) ?_ ?_
  rotate_left
  ·intro w'
   go_simp
   with_reducible rfl
  rotate_left
  ·simp only [Act.put, List.setIfInBounds_toArray, List.set_cons_zero, List.set_cons_succ, i64_w, i32_w]
   rfl
  refine pure_ (i := 6) (N := some 20) (v := ?_) (a' := ?_) #[true, false, true, false, false, false, true, false, false, false, false, false, false, false, false, false, false, false, false, false, false, false, false] rfl rfl (any_of HT_.out (by kernel_rfl)) (fun _ _ _ h => h) (Or.inl ⟨by rfl, ?_⟩) ?_ ?_
  rotate_left
  ·intro w'
   go_simp
   with_reducible rfl
  rotate_left
  ·simp only [Act.put, List.setIfInBounds_toArray, List.set_cons_zero, List.set_cons_succ, i64_w, i32_w]
   rfl
  refine pure_ (i := 10) (N := some 24) (v := ?_) (a' := ?_) #[true, false, true, false, false, false, true, false, false, false, true, false, false, false, false, false, false, false, false, false, false, false, false] rfl rfl (any_of HT_.out (by kernel_rfl)) (fun _ _ _ h => h) (Or.inl ⟨by rfl, ?_⟩) ?_ ?_
  rotate_left
  ·intro w'
   go_simp
   with_reducible rfl
  rotate_left
  ·simp only [Act.put, List.setIfInBounds_toArray, List.set_cons_zero, List.set_cons_succ, i64_w, i32_w]
   rfl
  refine pure_ (i := 14) (N := some 28) (v := ?_) (a' := ?_) #[true, false, true, false, false, false, true, false, false, false, true, false, false, false, true, false, false, false, false, false, false, false, false] rfl rfl (any_of HT_.out (by kernel_rfl)) (fun _ _ _ h => h) (Or.inl ⟨by rfl, ?_⟩) ?_ ?_
  rotate_left
  ·intro w'
   go_simp
   with_reducible rfl
  rotate_left
  ·simp only [Act.put, List.setIfInBounds_toArray, List.set_cons_zero, List.set_cons_succ, i64_w, i32_w]
   rfl
  refine take_ (i := 1) (N := some 15) (v := ?_) (a' := ?_) #[true, true, true, false, false, false, true, false, false, false, true, false, false, false, true, false, false, false, false, false, false, false, false] rfl rfl (take_ofW HT_.out HW_.out (by kernel_rfl)) (fun _ _ _ h => h) (Or.inl ⟨by rfl, ?_⟩) hHeld ?_ ?_
  rotate_left
  ·rintro w' ⟨s0, s1, s2, s3, s4, s5, s6, s7, s8, s9, s10⟩
   go_simp
   with_reducible rfl
  rotate_left
  ·simp only [Act.put, List.setIfInBounds_toArray, List.set_cons_zero, List.set_cons_succ, i64_w, i32_w]
   rfl
  refine take_ (i := 3) (N := some 17) (v := ?_) (a' := ?_) #[true, true, true, true, false, false, true, false, false, false, true, false, false, false, true, false, false, false, false, false, false, false, false] rfl rfl (take_ofW HT_.out HW_.out (by kernel_rfl)) (fun _ _ _ h => h) (Or.inl ⟨by rfl, ?_⟩) hHeld ?_ ?_
  rotate_left
  ·rintro w' ⟨s0, s1, s2, s3, s4, s5, s6, s7, s8, s9, s10⟩
   go_simp
   with_reducible rfl
  rotate_left
  ·simp only [Act.put, List.setIfInBounds_toArray, List.set_cons_zero, List.set_cons_succ, i64_w, i32_w]
   rfl
  refine pure_ (i := 4) (N := some 18) (v := ?_) (a' := ?_) #[true, true, true, true, true, false, true, false, false, false, true, false, false, false, true, false, false, false, false, false, false, false, false] rfl rfl (any_of HT_.out (by kernel_rfl)) (fun _ _ _ h => h) (Or.inl ⟨by rfl, ?_⟩) ?_ ?_
  rotate_left
  ·intro w'
   go_simp
   with_reducible rfl
  rotate_left
  ·simp only [Act.put, List.setIfInBounds_toArray, List.set_cons_zero, List.set_cons_succ, i64_w, i32_w]
   rfl
  refine pure_ (i := 5) (N := some 19) (v := ?_) (a' := ?_) #[true, true, true, true, true, true, true, false, false, false, true, false, false, false, true, false, false, false, false, false, false, false, false] rfl rfl (any_of HT_.out (by kernel_rfl)) (fun _ _ _ h => h) (Or.inl ⟨by rfl, ?_⟩) ?_ ?_
  rotate_left
  ·intro w'
   go_simp
   with_reducible rfl
  rotate_left
  ·simp only [Act.put, List.setIfInBounds_toArray, List.set_cons_zero, List.set_cons_succ, i64_w, i32_w]
   rfl
  refine take_ (i := 7) (N := some 21) (v := ?_) (a' := ?_) #[true, true, true, true, true, true, true, true, false, false, true, false, false, false, true, false, false, false, false, false, false, false, false] rfl rfl (take_ofW HT_.out HW_.out (by kernel_rfl)) (fun _ _ _ h => h) (Or.inl ⟨by rfl, ?_⟩) hHeld ?_ ?_
  rotate_left
  ·rintro w' ⟨s0, s1, s2, s3, s4, s5, s6, s7, s8, s9, s10⟩
   go_simp
   with_reducible rfl
  rotate_left
  ·simp only [Act.put, List.setIfInBounds_toArray, List.set_cons_zero, List.set_cons_succ, i64_w, i32_w]
   rfl
  refine pure_ (i := 8) (N := some 22) (v := ?_) (a' := ?_) #[true, true, true, true, true, true, true, true, true, false, true, false, false, false, true, false, false, false, false, false, false, false, false] rfl rfl (any_of HT_.out (by kernel_rfl)) (fun _ _ _ h => h) (Or.inl ⟨by rfl, ?_⟩) ?_ ?_
  rotate_left
  ·intro w'
   go_simp
   with_reducible rfl
  rotate_left
  ·simp only [Act.put, List.setIfInBounds_toArray, List.set_cons_zero, List.set_cons_succ, i64_w, i32_w]
   rfl
  refine pure_ (i := 9) (N := some 23) (v := ?_) (a' := ?_) #[true, true, true, true, true, true, true, true, true, true, true, false, false, false, true, false, false, false, false, false, false, false, false] rfl rfl (any_of HT_.out (by kernel_rfl)) (fun _ _ _ h => h) (Or.inl ⟨by rfl, ?_⟩) ?_ ?_
  rotate_left
  ·intro w'
   go_simp
   with_reducible rfl
  rotate_left
  ·simp only [Act.put, List.setIfInBounds_toArray, List.set_cons_zero, List.set_cons_succ, i64_w, i32_w]
   rfl
  refine take_ (i := 11) (N := some 25) (v := ?_) (a' := ?_) #[true, true, true, true, true, true, true, true, true, true, true, true, false, false, true, false, false, false, false, false, false, false, false] rfl rfl (take_ofW HT_.out HW_.out (by kernel_rfl)) (fun _ _ _ h => h) (Or.inl ⟨by rfl, ?_⟩) hHeld ?_ ?_
  rotate_left
  ·rintro w' ⟨s0, s1, s2, s3, s4, s5, s6, s7, s8, s9, s10⟩
   go_simp
   with_reducible rfl
  rotate_left
  ·simp only [Act.put, List.setIfInBounds_toArray, List.set_cons_zero, List.set_cons_succ, i64_w, i32_w]
   rfl
  refine pure_ (i := 12) (N := some 26) (v := ?_) (a' := ?_) #[true, true, true, true, true, true, true, true, true, true, true, true, true, false, true, false, false, false, false, false, false, false, false] rfl rfl (any_of HT_.out (by kernel_rfl)) (fun _ _ _ h => h) (Or.inl ⟨by rfl, ?_⟩) ?_ ?_
  rotate_left
  ·intro w'
   go_simp
   with_reducible rfl
  rotate_left
  ·simp only [Act.put, List.setIfInBounds_toArray, List.set_cons_zero, List.set_cons_succ, i64_w, i32_w]
   rfl
  refine pure_ (i := 13) (N := some 27) (v := ?_) (a' := ?_) #[true, true, true, true, true, true, true, true, true, true, true, true, true, true, true, false, false, false, false, false, false, false, false] rfl rfl (any_of HT_.out (by kernel_rfl)) (fun _ _ _ h => h) (Or.inl ⟨by rfl, ?_⟩) ?_ ?_
  rotate_left
  ·intro w'
   go_simp
   with_reducible rfl
  rotate_left
  ·simp only [Act.put, List.setIfInBounds_toArray, List.set_cons_zero, List.set_cons_succ, i64_w, i32_w]
   rfl
  refine take_ (i := 15) (N := some 29) (v := ?_) (a' := ?_) #[true, true, true, true, true, true, true, true, true, true, true, true, true, true, true, true, false, false, false, false, false, false, false] rfl rfl (take_ofW HT_.out HW_.out (by kernel_rfl)) (fun _ _ _ h => h) (Or.inl ⟨by rfl, ?_⟩) hHeld ?_ ?_
  rotate_left
  ·rintro w' ⟨s0, s1, s2, s3, s4, s5, s6, s7, s8, s9, s10⟩
   go_simp
   with_reducible rfl
  rotate_left
  ·simp only [Act.put, List.setIfInBounds_toArray, List.set_cons_zero, List.set_cons_succ, i64_w, i32_w]
   rfl
  refine pure_ (i := 16) (N := some 30) (v := ?_) (a' := ?_) #[true, true, true, true, true, true, true, true, true, true, true, true, true, true, true, true, true, false, false, false, false, false, false] rfl rfl (any_of HT_.out (by kernel_rfl)) (fun _ _ _ h => h) (Or.inl ⟨by rfl, ?_⟩) ?_ ?_
  rotate_left
  ·intro w'
   go_simp
   with_reducible rfl
  rotate_left
  ·simp only [Act.put, List.setIfInBounds_toArray, List.set_cons_zero, List.set_cons_succ, i64_w, i32_w]
   rfl
  refine pure_ (i := 17) (N := some 31) (v := ?_) (a' := ?_) #[true, true, true, true, true, true, true, true, true, true, true, true, true, true, true, true, true, true, false, false, false, false, false] rfl rfl (any_of HT_.out (by kernel_rfl)) (fun _ _ _ h => h) (Or.inl ⟨by rfl, ?_⟩) ?_ ?_
  rotate_left
  ·intro w'
   go_simp
   with_reducible rfl
  rotate_left
  ·simp only [Act.put, List.setIfInBounds_toArray, List.set_cons_zero, List.set_cons_succ, i64_w, i32_w]
   rfl
  refine pure_ (i := 18) (N := some 32) (v := ?_) (a' := ?_) #[true, true, true, true, true, true, true, true, true, true, true, true, true, true, true, true, true, true, true, false, false, false, false] rfl rfl (any_of HT_.out (by kernel_rfl)) (fun _ _ _ h => h) (Or.inl ⟨by rfl, ?_⟩) ?_ ?_
  rotate_left
  ·intro w'
   go_simp
   with_reducible rfl
  rotate_left
  ·simp only [Act.put, List.setIfInBounds_toArray, List.set_cons_zero, List.set_cons_succ, i64_w, i32_w]
   rfl
  refine take_ (i := 19) (N := some 33) (v := ?_) (a' := ?_) #[true, true, true, true, true, true, true, true, true, true, true, true, true, true, true, true, true, true, true, true, false, false, false] rfl rfl (take_ofW HT_.out HW_.out (by kernel_rfl)) (fun _ _ _ h => h) (Or.inl ⟨by rfl, ?_⟩) hHeld ?_ ?_
  rotate_left
  ·rintro w' ⟨s0, s1, s2, s3, s4, s5, s6, s7, s8, s9, s10⟩
   go_simp
   with_reducible rfl
  rotate_left
  ·simp only [Act.put, List.setIfInBounds_toArray, List.set_cons_zero, List.set_cons_succ, i64_w, i32_w]
   rfl
  refine one_ (i := 20) (N := some 34) #[true, true, true, true, true, true, true, true, true, true, true, true, true, true, true, true, true, true, true, true, true, false, false] rfl rfl (one_of HT_.out (by kernel_rfl)) (by decide) (fun K hK => ?_)
  refine goes_ Tryz.func41 (by kernel_rfl) rfl #[.agg #[.int .i64 t140, .int .i64 t141, .int .i64 t142, .int .i64 t143]] (by rfl) rfl rfl (by (try simp only [List.map_toArray, List.map_cons, List.map_nil]); first | done | rfl | (simp only [List.length_drop, List.length_take]; rfl)) ?_
  with_reducible refine (inst_row_high.calls t140 t141 t142 t143 t145 _ A5.out).mono ?_
  rintro e w17 ⟨rfl, hb⟩
  refine ⟨_, rfl, ?_⟩
  have n0_ := bk BK138 hb
  have n1_ := bk BK144 hb
  have n2_ := bns2 HB GE138 GE144 hb
  clear BK138
  clear BK144
  clear HB
  have BK138 := n0_
  have BK144 := n1_
  have HB := n2_
  clear n0_ n1_ n2_
  (try clear hb)
  (try clear hb2)
  (try clear hk)
  (try clear hi)
  refine hK.out _ _ ⟨(blk_cell BK144.out 0).trans rfl, (blk_cell BK144.out 1).trans rfl, (blk_cell BK144.out 2).trans rfl, (blk_cell BK144.out 3).trans rfl, (blk_cell BK138.out 0).trans rfl, (blk_cell BK138.out 1).trans rfl, (blk_cell BK138.out 2).trans rfl, (blk_cell BK138.out 3).trans rfl, (blk_cell BK138.out 4).trans rfl, (blk_cell BK138.out 5).trans rfl, (blk_cell BK138.out 6).trans rfl⟩ (fun hHeld => ?_)
  clear hK K
  refine norm_ (a' := ?_) ?_ ?_
  rotate_left
  ·show Act.put _ (some 34) _ = _
   simp only [Act.put, List.setIfInBounds_toArray, List.set_cons_zero, List.set_cons_succ, i64_w, i32_w]
   rfl
  refine pure_ (i := 21) (N := some 35) (v := ?_) (a' := ?_) #[true, true, true, true, true, true, true, true, true, true, true, true, true, true, true, true, true, true, true, true, true, true, false] rfl rfl (any_of HT_.out (by kernel_rfl)) (fun _ _ _ h => h) (Or.inl ⟨by rfl, ?_⟩) ?_ ?_
  rotate_left
  ·intro w'
   go_simp
   with_reducible rfl
  rotate_left
  ·simp only [Act.put, List.setIfInBounds_toArray, List.set_cons_zero, List.set_cons_succ, i64_w, i32_w]
   rfl
  refine pure_ (i := 22) (N := some 5) (v := ?_) (a' := ?_) #[true, true, true, true, true, true, true, true, true, true, true, true, true, true, true, true, true, true, true, true, true, true, true] rfl rfl (any_of HT_.out (by kernel_rfl)) (fun _ _ _ h => h) (Or.inl ⟨by rfl, ?_⟩) ?_ ?_
  rotate_left
  ·intro w'
   go_simp
   with_reducible rfl
  rotate_left
  ·simp only [Act.put, List.setIfInBounds_toArray, List.set_cons_zero, List.set_cons_succ, i64_w, i32_w]
   rfl
  refine done_ (done_of HT_.out (by kernel_rfl)) ?_
  obtain ⟨z18_0, z18_1, z18_2, z18_3, f18_0, f18_1, f18_2, f18_3⟩ := cf4 BK144
  try go_wp2_with (first | ((with_reducible refine gate_callee (f := 42) rfl ?_); refine gl (some 38) rfl rfl Tryz.func42 rfl #[.int .i64 t140] rfl ?_; (with_reducible refine (inst_places.calls t140 t146 _ A6.out).mono ?_); rintro e w19 ⟨v147, rfl, ho0, hb⟩; refine ⟨_, rfl, ?_⟩; have HO148 := am (Kd.R_lower ho0 (below_size (bs2 HB GE138 GE144))); replace BK138 := bk BK138 hb; replace BK144 := bk BK144 hb; replace HB := bns2 HB GE138 GE144 hb; (try clear hb); (try clear hb2); (try clear hk); (try clear hi); (try clear ho0); obtain ⟨Ao20, co20, eo20⟩ := Kd.R_slice HO148.out; subst eo20))
  go_loopg [5, 40] k (fun kq v5 v40 w' => ∃ (x5_1 : Int) (x40_1 : Int), v5 = .int .u64 x5_1 ∧ v40 = .int .i64 x40_1 ∧ Aside0 (inst_Encode0.l0 kq x5_1 t146 (t146.length : Int) x40_1 a0_0 a0_1 a0_2 a0_3 a0_4 a0_5 a0_6 = some (r1, r2)) ∧ Aside0 (kq ≤ k) ∧ Aside0 (Kd.R k93 93 w' w.heap.size (fun _ => True) (.slice Ao20 t146.length co20) t146) ∧ Aside0 (w'.heap[gb138]? = some (.cells #[.int .i64 a0_0, .int .i64 a0_1, .int .i64 a0_2, .int .i64 a0_3, .int .i64 a0_4, .bool a0_5, .bool a0_6] 50 (0, 0))) ∧ Aside0 (w'.heap[gb144]? = some (.cells #[.int .i64 t140, .int .i64 t141, .int .i64 t142, .int .i64 t143] 87 (0, 0))) ∧ Aside0 (Below w.heap.size w w'))
  case atStart => exact ⟨(Go.bits .or .u64 (IntKind.u64.wrap (Go.bits .or .i64 (Go.bits .or .i64 (Go.bits .or .i64 (Go.bits .or .i64 t141 (wrap64 (t142 * 4096))) (wrap64 (a0_1 * 128))) (wrap64 (a0_2 * 32768))) (wrap64 (a0_3 * 1048576)))) t145), (0), fr, fr, H', ⟨Nat.le_refl _⟩, ⟨by (with_reducible repeat (first | apply Kd.R_alloc | apply Kd.R_drewN | apply Kd.R_drew)); exact HO148.out⟩, ⟨bu BK138⟩, ⟨bu BK144⟩, ⟨bs2 HB GE138 GE144⟩⟩
  case round =>
   clear H'
   try clear c1
   try clear p2
   try clear c3
   try clear c4
   try clear p6
   try clear c13
   try clear c16
   try clear z10_0
   try clear z10_1
   try clear z10_2
   try clear z10_3
   try clear z10_4
   try clear z10_5
   try clear z10_6
   try clear z14_0
   try clear z14_1
   try clear z14_2
   try clear z14_3
   try clear z18_0
   try clear z18_1
   try clear z18_2
   try clear z18_3
   try clear z8_0
   try clear z8_1
   try clear z8_2
   try clear z8_3
   try clear z8_4
   try clear z8_5
   try clear z8_6
   try clear f10_0
   try clear f10_1
   try clear f10_2
   try clear f10_3
   try clear f10_4
   try clear f10_5
   try clear f10_6
   try clear f14_0
   try clear f14_1
   try clear f14_2
   try clear f14_3
   try clear f18_0
   try clear f18_1
   try clear f18_2
   try clear f18_3
   try clear f8_0
   try clear f8_1
   try clear f8_2
   try clear f8_3
   try clear f8_4
   try clear f8_5
   try clear f8_6
   obtain ⟨x5_1, x40_1, rfl, rfl, HA, HK1, HO_38, BK138, BK144, HB⟩ := hrel
   cases gk with
   | zero => exact absurd HA.out (by simp [inst_Encode0.l0])
   | succ k1 =>
    have H := HA.out
    clear HA
    simp only [inst_Encode0.l0] at H
    by_cases c21 : x40_1 < (t146.length : Int)
    ·rw [if_pos c21] at H
     have c21b0 : decide (x40_1 < (t146.length : Int)) = true := decide_eq_true c21
     clear c21
     by_cases c22 : 0 ≤ x40_1
     ·rw [if_pos c22] at H
      have c22b0 : decide (0 ≤ x40_1) = true := decide_eq_true c22
      clear c22
      by_cases c23 : x40_1 < (t146.length : Int)
      ·rw [if_pos c23] at H
       have c23b0 : decide (x40_1 < (t146.length : Int)) = true := decide_eq_true c23
       clear c23
       by_cases c24 : 0 ≤ ((rd_T93 t146 x40_1).f2)
       ·rw [if_pos c24] at H
        have c24b0 := eq_true c24
        have c24b1 : decide (0 ≤ ((rd_T93 t146 x40_1).f2)) = true := decide_eq_true c24
        clear c24
        obtain ⟨ji25, hji25⟩ : ∃ j_ : Int, (shr .u64 x5_1 ((rd_T93 t146 x40_1).f2)) = j_ := ⟨_, rfl⟩
        replace H : (if 0 ≤ ((rd_T93 t146 x40_1).f0) then (if 0 ≤ ((rd_T93 t146 x40_1).f1) then ((bits_Place.f x5_1 ((rd_T93 t146 x40_1).f2) ((rd_T93 t146 x40_1).f1) (Go.bits .or .u64 (ji25) (Go.bits .and .u64 (shr .u64 (IntKind.u64.wrap (a0_4)) ((rd_T93 t146 x40_1).f0)) (IntKind.u64.wrap ((shl .u64 1 ((rd_T93 t146 x40_1).f1)) - 1))))).bind fun t151 => (inst_Encode0.l0 k1 t151 t146 (t146.length : Int) (wrap64 (x40_1 + 1)) a0_0 a0_1 a0_2 a0_3 a0_4 a0_5 a0_6)) else (none)) else (none)) = some (r1, r2) := by first | (rw [hji25] at H; exact H) | (simp only [hji25] at H ⊢; exact H)
        have hji25_ : (x5_1 / 2 ^ min ((rd_T93 t146 x40_1).f2).toNat 64) = ji25 := hji25
        have hji25z : ((rd_T93 t146 x40_1).f2) ≤ 64 → (x5_1 / 2 ^ ((rd_T93 t146 x40_1).f2).toNat) = ji25 := shr_small hji25
        by_cases c26 : 0 ≤ ((rd_T93 t146 x40_1).f0)
        ·rw [if_pos c26] at H
         have c26b0 := eq_true c26
         have c26b1 : decide (0 ≤ ((rd_T93 t146 x40_1).f0)) = true := decide_eq_true c26
         clear c26
         obtain ⟨ji27, hji27⟩ : ∃ j_ : Int, (shr .u64 (IntKind.u64.wrap (a0_4)) ((rd_T93 t146 x40_1).f0)) = j_ := ⟨_, rfl⟩
         replace H : (if 0 ≤ ((rd_T93 t146 x40_1).f1) then ((bits_Place.f x5_1 ((rd_T93 t146 x40_1).f2) ((rd_T93 t146 x40_1).f1) (Go.bits .or .u64 (ji25) (Go.bits .and .u64 (ji27) (IntKind.u64.wrap ((shl .u64 1 ((rd_T93 t146 x40_1).f1)) - 1))))).bind fun t151 => (inst_Encode0.l0 k1 t151 t146 (t146.length : Int) (wrap64 (x40_1 + 1)) a0_0 a0_1 a0_2 a0_3 a0_4 a0_5 a0_6)) else (none)) = some (r1, r2) := by first | (rw [hji27] at H; exact H) | (simp only [hji27] at H ⊢; exact H)
         have hji27_ : ((IntKind.u64.wrap (a0_4)) / 2 ^ min ((rd_T93 t146 x40_1).f0).toNat 64) = ji27 := hji27
         have hji27z : ((rd_T93 t146 x40_1).f0) ≤ 64 → ((IntKind.u64.wrap (a0_4)) / 2 ^ ((rd_T93 t146 x40_1).f0).toNat) = ji27 := shr_small hji27
         by_cases c28 : 0 ≤ ((rd_T93 t146 x40_1).f1)
         ·rw [if_pos c28] at H
          have c28b0 := eq_true c28
          have c28b1 : decide (0 ≤ ((rd_T93 t146 x40_1).f1)) = true := decide_eq_true c28
          clear c28
          obtain ⟨ji29, hji29⟩ : ∃ j_ : Int, (shl .u64 1 ((rd_T93 t146 x40_1).f1)) = j_ := ⟨_, rfl⟩
          replace H : ((bits_Place.f x5_1 ((rd_T93 t146 x40_1).f2) ((rd_T93 t146 x40_1).f1) (Go.bits .or .u64 (ji25) (Go.bits .and .u64 (ji27) (IntKind.u64.wrap ((ji29) - 1))))).bind fun t151 => (inst_Encode0.l0 k1 t151 t146 (t146.length : Int) (wrap64 (x40_1 + 1)) a0_0 a0_1 a0_2 a0_3 a0_4 a0_5 a0_6)) = some (r1, r2) := by first | (rw [hji29] at H; exact H) | (simp only [hji29] at H ⊢; exact H)
          have hji29_ : (IntKind.u64.wrap (1 * 2 ^ min ((rd_T93 t146 x40_1).f1).toNat 64)) = ji29 := hji29
          have hji29z : ((rd_T93 t146 x40_1).f1) ≤ 64 → (IntKind.u64.wrap (1 * 2 ^ ((rd_T93 t146 x40_1).f1).toNat)) = ji29 := shl_small hji29
          have hji29u : (IntKind.u64.wrap (2 ^ min ((rd_T93 t146 x40_1).f1).toNat 64)) = ji29 := by have h_ := hji29_; rw [Int.one_mul] at h_; exact h_
          have hji29v : ((rd_T93 t146 x40_1).f1) ≤ 64 → (IntKind.u64.wrap (2 ^ ((rd_T93 t146 x40_1).f1).toNat)) = ji29 := fun hle_ => by have h_ := hji29z hle_; rw [Int.one_mul] at h_; exact h_
          obtain ⟨t151, A30, H⟩ := bam H
          try dsimp only at H
          have H' := am H
          clear H
          have p149 : 0 ≤ (x40_1 : Int) := of_decide_eq_true (by first | (with_reducible assumption) | assumption)
          have q149 : x40_1 < (t146.length : Int) := of_decide_eq_true (by first | (with_reducible assumption) | assumption)
          obtain ⟨ad149, e149, hx149_0, hx149_1, hx149_2⟩ := at_T93 (Kd.R_reads' HO_38.out).2.2 x40_1 p149 q149
          cases e149
          replace p149 := eq_true p149
          replace q149 := eq_true q149
          try go_wp2_with (first | ((with_reducible refine gate_dst (N := 7) rfl ?_); refine be 7 93 #[.int .i64 0, .int .i64 0, .int .i64 0] ?_; intro gb150 hg w31 hbox hb; have n0_ := am (Kd.R_below (Kd.R_elderB (by (with_reducible repeat (first | apply Kd.R_alloc | apply Kd.R_drewN | apply Kd.R_drew)); exact HO_38.out) gb150 (Nat.le_of_eq hg.symm)) hb); have n1_ := bk BK138 hb; have n2_ := bk BK144 hb; have n3_ := bns2 HB GE138 GE144 hb; have n4_ := am hbox; have n5_ := bzs2 HB GE138 GE144 hg; have n6_ := bzs2 HB GE138 GE144 hg; have n7_ := nl BK138 hg; have n8_ := ng BK138 hg; have n9_ := nl BK144 hg; have n10_ := ng BK144 hg; clear HO_38; clear BK138; clear BK144; clear HB; have HO_38 := n0_; have BK138 := n1_; have BK144 := n2_; have HB := n3_; have BK150 := n4_; have GW150 := n5_; have GE150 := n6_; have NB138_150 := n7_; have NB150_138 := n8_; have NB144_150 := n9_; have NB150_144 := n10_; clear n0_ n1_ n2_ n3_ n4_ n5_ n6_ n7_ n8_ n9_ n10_; clear hb hbox hg; have hnb32 := NB150_138.out; have hnc32 := NB138_150.out; have hnb33 := NB150_144.out; have hnc33 := NB144_150.out; obtain ⟨z34_0, z34_1, z34_2, f34_0, f34_1, f34_2⟩ := cf3 BK150))
          have n0_ : Aside0 (Kd.R k93 93 (((w31.setCell ⟨gb150, 0, none⟩ (.int .i64 ((rd_T93 t146 x40_1).f0))).setCell ⟨gb150, 1, none⟩ (.int .i64 ((rd_T93 t146 x40_1).f1))).setCell ⟨gb150, 2, none⟩ (.int .i64 ((rd_T93 t146 x40_1).f2))) w.heap.size (fun k_ => k_ ≠ gb150) (.slice (some ad149) t146.length co20) t146) := ⟨by (with_reducible repeat (first | apply Kd.R_alloc | apply Kd.R_drewN | apply Kd.R_drew)); exact Kd.R_mono (Kd.R_far (p := ⟨gb150, 2, none⟩) (Kd.R_far (p := ⟨gb150, 1, none⟩) (Kd.R_far (p := ⟨gb150, 0, none⟩) (Kd.R_mono HO_38.out (fun k_ hk => (⟨hk, hk.2⟩ : _ ∧ k_ ≠ gb150))) (fun _ hk => hk.2) (.int .i64 ((rd_T93 t146 x40_1).f0))) (fun _ hk => hk.2) (.int .i64 ((rd_T93 t146 x40_1).f1))) (fun _ hk => hk.2) (.int .i64 ((rd_T93 t146 x40_1).f2))) (fun _ hk => hk.1.2)⟩
          have n1_ : Aside0 ((((w31.setCell ⟨gb150, 0, none⟩ (.int .i64 ((rd_T93 t146 x40_1).f0))).setCell ⟨gb150, 1, none⟩ (.int .i64 ((rd_T93 t146 x40_1).f1))).setCell ⟨gb150, 2, none⟩ (.int .i64 ((rd_T93 t146 x40_1).f2))).heap[gb138]? = some (.cells #[.int .i64 a0_0, .int .i64 a0_1, .int .i64 a0_2, .int .i64 a0_3, .int .i64 a0_4, .bool a0_5, .bool a0_6] 50 (0, 0))) := ⟨by refine blk_far ?_ NB138_150.out _; refine blk_far ?_ NB138_150.out _; refine blk_far ?_ NB138_150.out _; exact BK138.out⟩
          have n2_ : Aside0 ((((w31.setCell ⟨gb150, 0, none⟩ (.int .i64 ((rd_T93 t146 x40_1).f0))).setCell ⟨gb150, 1, none⟩ (.int .i64 ((rd_T93 t146 x40_1).f1))).setCell ⟨gb150, 2, none⟩ (.int .i64 ((rd_T93 t146 x40_1).f2))).heap[gb144]? = some (.cells #[.int .i64 t140, .int .i64 t141, .int .i64 t142, .int .i64 t143] 87 (0, 0))) := ⟨by refine blk_far ?_ NB144_150.out _; refine blk_far ?_ NB144_150.out _; refine blk_far ?_ NB144_150.out _; exact BK144.out⟩
          have n3_ : Aside0 ((((w31.setCell ⟨gb150, 0, none⟩ (.int .i64 ((rd_T93 t146 x40_1).f0))).setCell ⟨gb150, 1, none⟩ (.int .i64 ((rd_T93 t146 x40_1).f1))).setCell ⟨gb150, 2, none⟩ (.int .i64 ((rd_T93 t146 x40_1).f2))).heap[gb150]? = some (.cells #[.int .i64 ((rd_T93 t146 x40_1).f0), .int .i64 ((rd_T93 t146 x40_1).f1), .int .i64 ((rd_T93 t146 x40_1).f2)] 93 (0, 0))) := ⟨by refine blk_put (cs := #[.int .i64 ((rd_T93 t146 x40_1).f0), .int .i64 ((rd_T93 t146 x40_1).f1), .int .i64 0]) ?_ 2 _ rfl; refine blk_put (cs := #[.int .i64 ((rd_T93 t146 x40_1).f0), .int .i64 0, .int .i64 0]) ?_ 1 _ rfl; refine blk_put (cs := #[.int .i64 0, .int .i64 0, .int .i64 0]) ?_ 0 _ rfl; exact BK150.out⟩
          have n4_ : Aside0 (Below w.heap.size w (((w31.setCell ⟨gb150, 0, none⟩ (.int .i64 ((rd_T93 t146 x40_1).f0))).setCell ⟨gb150, 1, none⟩ (.int .i64 ((rd_T93 t146 x40_1).f1))).setCell ⟨gb150, 2, none⟩ (.int .i64 ((rd_T93 t146 x40_1).f2)))) := ⟨bs3 HB GE138 GE144 GE150⟩
          (try clear HO_38)
          (try clear BK138)
          (try clear BK144)
          (try clear BK150)
          (try clear HB)
          generalize (((w31.setCell ⟨gb150, 0, none⟩ (.int .i64 ((rd_T93 t146 x40_1).f0))).setCell ⟨gb150, 1, none⟩ (.int .i64 ((rd_T93 t146 x40_1).f1))).setCell ⟨gb150, 2, none⟩ (.int .i64 ((rd_T93 t146 x40_1).f2))) = w35 at n0_ n1_ n2_ n3_ n4_ ⊢
          have HO_38 := n0_
          have BK138 := n1_
          have BK144 := n2_
          have BK150 := n3_
          have HB := n4_
          clear n0_ n1_ n2_ n3_ n4_
          have n0_ := am (Kd.R_drew HO_38.out)
          have n1_ := am (blk_drew BK138.out)
          have n2_ := am (blk_drew BK144.out)
          have n3_ := am (blk_drew BK150.out)
          have n4_ := am (below_drew1 HB.out)
          clear HO_38
          clear BK138
          clear BK144
          clear BK150
          clear HB
          have HO_38 := n0_
          have BK138 := n1_
          have BK144 := n2_
          have BK150 := n3_
          have HB := n4_
          clear n0_ n1_ n2_ n3_ n4_
          refine start_ (n := 23) (S := fun w' => w'.cell? ⟨gb150, 0, none⟩ = some (.int .i64 ((rd_T93 t146 x40_1).f0)) ∧ w'.cell? ⟨gb150, 1, none⟩ = some (.int .i64 ((rd_T93 t146 x40_1).f1)) ∧ w'.cell? ⟨gb150, 2, none⟩ = some (.int .i64 ((rd_T93 t146 x40_1).f2)) ∧ w'.cell? ⟨gb138, 0, none⟩ = some (.int .i64 a0_0) ∧ w'.cell? ⟨gb138, 1, none⟩ = some (.int .i64 a0_1) ∧ w'.cell? ⟨gb138, 2, none⟩ = some (.int .i64 a0_2) ∧ w'.cell? ⟨gb138, 3, none⟩ = some (.int .i64 a0_3) ∧ w'.cell? ⟨gb138, 4, none⟩ = some (.int .i64 a0_4) ∧ w'.cell? ⟨gb138, 5, none⟩ = some (.bool a0_5) ∧ w'.cell? ⟨gb138, 6, none⟩ = some (.bool a0_6)) (ds := []) #[false, false, false, false, false, false, false, false, false, false, false, false, false, false, false, false, false, false, false, false, false, false, false] (by kernel_rfl) rfl rfl ⟨(blk_cell BK150.out 0).trans rfl, (blk_cell BK150.out 1).trans rfl, (blk_cell BK150.out 2).trans rfl, (blk_cell BK138.out 0).trans rfl, (blk_cell BK138.out 1).trans rfl, (blk_cell BK138.out 2).trans rfl, (blk_cell BK138.out 3).trans rfl, (blk_cell BK138.out 4).trans rfl, (blk_cell BK138.out 5).trans rfl, (blk_cell BK138.out 6).trans rfl⟩ (fun hHeld => ?_); refine with_tabW inst_Encode0.tab8 inst_Encode0.bits8 (fun HT_ HW_ => ?_)
          generalize w35.drew = w36 at HO_38 BK138 BK144 BK150 HB hHeld ⊢
          refine pure_ (i := 0) (N := some 44) (v := ?_) (a' := ?_) #[true, false, false, false, false, false, false, false, false, false, false, false, false, false, false, false, false, false, false, false, false, false, false] rfl rfl (any_of HT_.out (by kernel_rfl)) (fun _ _ _ h => h) (Or.inl ⟨by rfl, ?_⟩) ?_ ?_
          rotate_left
          ·intro w'
           go_simp
           with_reducible rfl
          rotate_left
          ·simp only [Act.put, List.setIfInBounds_toArray, List.set_cons_zero, List.set_cons_succ, i64_w, i32_w]
           rfl
          refine pure_ (i := 1) (N := some 45) (v := ?_) (a' := ?_) #[true, true, false, false, false, false, false, false, false, false, false, false, false, false, false, false, false, false, false, false, false, false, false] rfl rfl (any_of HT_.out (by kernel_rfl)) (fun _ _ _ h => h) (Or.inl ⟨by rfl, ?_⟩) ?_ ?_
          rotate_left
          ·intro w'
           go_simp
           with_reducible rfl
          rotate_left
          ·simp only [Act.put, List.setIfInBounds_toArray, List.set_cons_zero, List.set_cons_succ, i64_w, i32_w]
           rfl
          refine pure_ (i := 3) (N := some 47) (v := ?_) (a' := ?_) #[true, true, false, true, false, false, false, false, false, false, false, false, false, false, false, false, false, false, false, false, false, false, false] rfl rfl (any_of HT_.out (by kernel_rfl)) (fun _ _ _ h => h) (Or.inl ⟨by rfl, ?_⟩) ?_ ?_
          rotate_left
          ·intro w'
           go_simp
           with_reducible rfl
          rotate_left
          ·simp only [Act.put, List.setIfInBounds_toArray, List.set_cons_zero, List.set_cons_succ, i64_w, i32_w]
           rfl
          refine pure_ (i := 5) (N := some 49) (v := ?_) (a' := ?_) #[true, true, false, true, false, true, false, false, false, false, false, false, false, false, false, false, false, false, false, false, false, false, false] rfl rfl (any_of HT_.out (by kernel_rfl)) (fun _ _ _ h => h) (Or.inl ⟨by rfl, ?_⟩) ?_ ?_
          rotate_left
          ·intro w'
           go_simp
           with_reducible rfl
          rotate_left
          ·simp only [Act.put, List.setIfInBounds_toArray, List.set_cons_zero, List.set_cons_succ, i64_w, i32_w]
           rfl
          refine pure_ (i := 6) (N := some 50) (v := ?_) (a' := ?_) #[true, true, false, true, false, true, true, false, false, false, false, false, false, false, false, false, false, false, false, false, false, false, false] rfl rfl (any_of HT_.out (by kernel_rfl)) (fun _ _ _ h => h) (Or.inl ⟨by rfl, ?_⟩) ?_ ?_
          rotate_left
          ·intro w'
           go_simp
           with_reducible rfl
          rotate_left
          ·simp only [Act.put, List.setIfInBounds_toArray, List.set_cons_zero, List.set_cons_succ, i64_w, i32_w]
           rfl
          refine pure_ (i := 9) (N := some 53) (v := ?_) (a' := ?_) #[true, true, false, true, false, true, true, false, false, true, false, false, false, false, false, false, false, false, false, false, false, false, false] rfl rfl (any_of HT_.out (by kernel_rfl)) (fun _ _ _ h => h) (Or.inl ⟨by rfl, ?_⟩) ?_ ?_
          rotate_left
          ·intro w'
           go_simp
           with_reducible rfl
          rotate_left
          ·simp only [Act.put, List.setIfInBounds_toArray, List.set_cons_zero, List.set_cons_succ, i64_w, i32_w]
           rfl
          refine pure_ (i := 12) (N := some 56) (v := ?_) (a' := ?_) #[true, true, false, true, false, true, true, false, false, true, false, false, true, false, false, false, false, false, false, false, false, false, false] rfl rfl (any_of HT_.out (by kernel_rfl)) (fun _ _ _ h => h) (Or.inl ⟨by rfl, ?_⟩) ?_ ?_
          rotate_left
          ·intro w'
           go_simp
           with_reducible rfl
          rotate_left
          ·simp only [Act.put, List.setIfInBounds_toArray, List.set_cons_zero, List.set_cons_succ, i64_w, i32_w]
           rfl
          refine pure_ (i := 15) (N := some 59) (v := ?_) (a' := ?_) #[true, true, false, true, false, true, true, false, false, true, false, false, true, false, false, true, false, false, false, false, false, false, false] rfl rfl (any_of HT_.out (by kernel_rfl)) (fun _ _ _ h => h) (Or.inl ⟨by rfl, ?_⟩) ?_ ?_
          rotate_left
          ·intro w'
           go_simp
           with_reducible rfl
          rotate_left
          ·simp only [Act.put, List.setIfInBounds_toArray, List.set_cons_zero, List.set_cons_succ, i64_w, i32_w]
           rfl
          refine take_ (i := 2) (N := some 46) (v := ?_) (a' := ?_) #[true, true, true, true, false, true, true, false, false, true, false, false, true, false, false, true, false, false, false, false, false, false, false] rfl rfl (take_ofW HT_.out HW_.out (by kernel_rfl)) (fun _ _ _ h => h) (Or.inl ⟨by rfl, ?_⟩) hHeld ?_ ?_
          rotate_left
          ·rintro w' ⟨s0, s1, s2, s3, s4, s5, s6, s7, s8, s9⟩
           go_simp
           with_reducible rfl
          rotate_left
          ·simp only [Act.put, List.setIfInBounds_toArray, List.set_cons_zero, List.set_cons_succ, i64_w, i32_w]
           rfl
          refine take_ (i := 4) (N := some 48) (v := ?_) (a' := ?_) #[true, true, true, true, true, true, true, false, false, true, false, false, true, false, false, true, false, false, false, false, false, false, false] rfl rfl (take_ofW HT_.out HW_.out (by kernel_rfl)) (fun _ _ _ h => h) (Or.inl ⟨by rfl, ?_⟩) hHeld ?_ ?_
          rotate_left
          ·rintro w' ⟨s0, s1, s2, s3, s4, s5, s6, s7, s8, s9⟩
           go_simp
           with_reducible rfl
          rotate_left
          ·simp only [Act.put, List.setIfInBounds_toArray, List.set_cons_zero, List.set_cons_succ, i64_w, i32_w]
           rfl
          refine take_ (i := 7) (N := some 51) (v := ?_) (a' := ?_) #[true, true, true, true, true, true, true, true, false, true, false, false, true, false, false, true, false, false, false, false, false, false, false] rfl rfl (take_ofW HT_.out HW_.out (by kernel_rfl)) (fun _ _ _ h => h) (Or.inl ⟨by rfl, ?_⟩) hHeld ?_ ?_
          rotate_left
          ·rintro w' ⟨s0, s1, s2, s3, s4, s5, s6, s7, s8, s9⟩
           go_simp
           with_reducible rfl
          rotate_left
          ·simp only [Act.put, List.setIfInBounds_toArray, List.set_cons_zero, List.set_cons_succ, i64_w, i32_w]
           rfl
          refine pure_ (i := 8) (N := some 52) (v := ?_) (a' := ?_) #[true, true, true, true, true, true, true, true, true, true, false, false, true, false, false, true, false, false, false, false, false, false, false] rfl rfl (any_of HT_.out (by kernel_rfl)) (fun _ _ _ h => h) (Or.inl ⟨by rfl, ?_⟩) ?_ ?_
          rotate_left
          ·intro w'
           go_simp
           with_reducible rfl
          rotate_left
          ·simp only [Act.put, List.setIfInBounds_toArray, List.set_cons_zero, List.set_cons_succ, i64_w, i32_w]
           rfl
          refine take_ (i := 10) (N := some 54) (v := ?_) (a' := ?_) #[true, true, true, true, true, true, true, true, true, true, true, false, true, false, false, true, false, false, false, false, false, false, false] rfl rfl (take_ofW HT_.out HW_.out (by kernel_rfl)) (fun _ _ _ h => h) (Or.inl ⟨by rfl, ?_⟩) hHeld ?_ ?_
          rotate_left
          ·rintro w' ⟨s0, s1, s2, s3, s4, s5, s6, s7, s8, s9⟩
           go_simp
           with_reducible rfl
          rotate_left
          ·simp only [Act.put, List.setIfInBounds_toArray, List.set_cons_zero, List.set_cons_succ, i64_w, i32_w]
           rfl
          refine pure_ (i := 11) (N := some 55) (v := ?_) (a' := ?_) #[true, true, true, true, true, true, true, true, true, true, true, true, true, false, false, true, false, false, false, false, false, false, false] rfl rfl (any_of HT_.out (by kernel_rfl)) (fun _ _ _ h => h) (Or.inl ⟨by rfl, ?_⟩) ?_ ?_
          rotate_left
          ·intro w'
           go_simp
           with_reducible rfl
          rotate_left
          ·simp only [Act.put, List.setIfInBounds_toArray, List.set_cons_zero, List.set_cons_succ, i64_w, i32_w]
           rfl
          refine take_ (i := 13) (N := some 57) (v := ?_) (a' := ?_) #[true, true, true, true, true, true, true, true, true, true, true, true, true, true, false, true, false, false, false, false, false, false, false] rfl rfl (take_ofW HT_.out HW_.out (by kernel_rfl)) (fun _ _ _ h => h) (Or.inl ⟨by rfl, ?_⟩) hHeld ?_ ?_
          rotate_left
          ·rintro w' ⟨s0, s1, s2, s3, s4, s5, s6, s7, s8, s9⟩
           go_simp
           with_reducible rfl
          rotate_left
          ·simp only [Act.put, List.setIfInBounds_toArray, List.set_cons_zero, List.set_cons_succ, i64_w, i32_w]
           rfl
          refine pure_ (i := 14) (N := some 58) (v := ?_) (a' := ?_) #[true, true, true, true, true, true, true, true, true, true, true, true, true, true, true, true, false, false, false, false, false, false, false] rfl rfl (any_of HT_.out (by kernel_rfl)) (fun _ _ _ h => h) (Or.inl ⟨by rfl, ?_⟩) ?_ ?_
          rotate_left
          ·intro w'
           go_simp
           with_reducible rfl
          rotate_left
          ·simp only [Act.put, List.setIfInBounds_toArray, List.set_cons_zero, List.set_cons_succ, i64_w, i32_w]
           rfl
          refine take_ (i := 16) (N := some 60) (v := ?_) (a' := ?_) #[true, true, true, true, true, true, true, true, true, true, true, true, true, true, true, true, true, false, false, false, false, false, false] rfl rfl (take_ofW HT_.out HW_.out (by kernel_rfl)) (fun _ _ _ h => h) (Or.inl ⟨by rfl, ?_⟩) hHeld ?_ ?_
          rotate_left
          ·rintro w' ⟨s0, s1, s2, s3, s4, s5, s6, s7, s8, s9⟩
           go_simp
           with_reducible rfl
          rotate_left
          ·simp only [Act.put, List.setIfInBounds_toArray, List.set_cons_zero, List.set_cons_succ, i64_w, i32_w]
           rfl
          refine pure_ (i := 17) (N := some 61) (v := ?_) (a' := ?_) #[true, true, true, true, true, true, true, true, true, true, true, true, true, true, true, true, true, true, false, false, false, false, false] rfl rfl (any_of HT_.out (by kernel_rfl)) (fun _ _ _ h => h) (Or.inl ⟨by rfl, ?_⟩) ?_ ?_
          rotate_left
          ·intro w'
           go_simp
           with_reducible rfl
          rotate_left
          ·simp only [Act.put, List.setIfInBounds_toArray, List.set_cons_zero, List.set_cons_succ, i64_w, i32_w]
           rfl
          refine pure_ (i := 18) (N := some 62) (v := ?_) (a' := ?_) #[true, true, true, true, true, true, true, true, true, true, true, true, true, true, true, true, true, true, true, false, false, false, false] rfl rfl (any_of HT_.out (by kernel_rfl)) (fun _ _ _ h => h) (Or.inl ⟨by rfl, ?_⟩) ?_ ?_
          rotate_left
          ·intro w'
           go_simp
           with_reducible rfl
          rotate_left
          ·simp only [Act.put, List.setIfInBounds_toArray, List.set_cons_zero, List.set_cons_succ, i64_w, i32_w]
           rfl
          refine pure_ (i := 19) (N := some 63) (v := ?_) (a' := ?_) #[true, true, true, true, true, true, true, true, true, true, true, true, true, true, true, true, true, true, true, true, false, false, false] rfl rfl (any_of HT_.out (by kernel_rfl)) (fun _ _ _ h => h) (Or.inl ⟨by rfl, ?_⟩) ?_ ?_
          rotate_left
          ·intro w'
           go_simp
           with_reducible rfl
          rotate_left
          ·simp only [Act.put, List.setIfInBounds_toArray, List.set_cons_zero, List.set_cons_succ, i64_w, i32_w]
           rfl
          refine pure_ (i := 20) (N := some 64) (v := ?_) (a' := ?_) #[true, true, true, true, true, true, true, true, true, true, true, true, true, true, true, true, true, true, true, true, true, false, false] rfl rfl (any_of HT_.out (by kernel_rfl)) (fun _ _ _ h => h) (Or.inl ⟨by rfl, ?_⟩) ?_ ?_
          rotate_left
          ·intro w'
           go_simp
           with_reducible rfl
          rotate_left
          ·simp only [Act.put, List.setIfInBounds_toArray, List.set_cons_zero, List.set_cons_succ, i64_w, i32_w]
           rfl
          refine one_ (i := 21) (N := some 65) #[true, true, true, true, true, true, true, true, true, true, true, true, true, true, true, true, true, true, true, true, true, true, false] rfl rfl (one_of HT_.out (by kernel_rfl)) (by decide) (fun K hK => ?_)
          refine goes_ Tryz.func43 (by kernel_rfl) rfl #[.int .u64 x5_1, .int .i64 ((rd_T93 t146 x40_1).f2), .int .i64 ((rd_T93 t146 x40_1).f1), .int .u64 (Go.bits .or .u64 (ji25) (Go.bits .and .u64 (ji27) (IntKind.u64.wrap ((ji29) - 1))))] (by rfl) rfl rfl (by (try simp only [List.map_toArray, List.map_cons, List.map_nil]); first | done | (simp only [hji25, hji27, hji29]; rfl) | rfl | (simp only [List.length_drop, List.length_take]; rfl)) ?_
          with_reducible refine (bits_Place.calls x5_1 ((rd_T93 t146 x40_1).f2) ((rd_T93 t146 x40_1).f1) (Go.bits .or .u64 (ji25) (Go.bits .and .u64 (ji27) (IntKind.u64.wrap ((ji29) - 1)))) t151 _ A30.out).mono ?_
          rintro e w' ⟨rfl, ⟨nd, rfl⟩⟩
          refine ⟨_, rfl, ?_⟩
          refine hK.out _ _ ⟨(blk_cell BK150.out 0).trans rfl, (blk_cell BK150.out 1).trans rfl, (blk_cell BK150.out 2).trans rfl, (blk_cell BK138.out 0).trans rfl, (blk_cell BK138.out 1).trans rfl, (blk_cell BK138.out 2).trans rfl, (blk_cell BK138.out 3).trans rfl, (blk_cell BK138.out 4).trans rfl, (blk_cell BK138.out 5).trans rfl, (blk_cell BK138.out 6).trans rfl⟩ (fun hHeld => ?_)
          clear hK K
          refine norm_ (a' := ?_) ?_ ?_
          rotate_left
          ·show Act.put _ (some 65) _ = _
           simp only [Act.put, List.setIfInBounds_toArray, List.set_cons_zero, List.set_cons_succ, i64_w, i32_w]
           rfl
          refine pure_ (i := 22) (N := some 5) (v := ?_) (a' := ?_) #[true, true, true, true, true, true, true, true, true, true, true, true, true, true, true, true, true, true, true, true, true, true, true] rfl rfl (any_of HT_.out (by kernel_rfl)) (fun _ _ _ h => h) (Or.inl ⟨by rfl, ?_⟩) ?_ ?_
          rotate_left
          ·intro w'
           go_simp
           with_reducible rfl
          rotate_left
          ·simp only [Act.put, List.setIfInBounds_toArray, List.set_cons_zero, List.set_cons_succ, i64_w, i32_w]
           rfl
          refine done_ (done_of HT_.out (by kernel_rfl)) ?_
          try go_wp2
          go_roundg k1
          case measure => have := HK1.out; omega
          case rel => exact ⟨(t151), (wrap64 (x40_1 + 1)), fr, fr, H', ⟨by have := HK1.out; omega⟩, ⟨by (with_reducible repeat (first | apply Kd.R_alloc | apply Kd.R_drewN | apply Kd.R_drew)); exact Kd.R_mono HO_38.out (fun _ hk => trivial)⟩, ⟨bu BK138⟩, ⟨bu BK144⟩, ⟨bs3 HB GE138 GE144 GE150⟩⟩
         ·rw [if_neg c28] at H
          exact absurd H (by simp)
        ·rw [if_neg c26] at H
         exact absurd H (by simp)
       ·rw [if_neg c24] at H
        exact absurd H (by simp)
      ·rw [if_neg c23] at H
       exact absurd H (by simp)
     ·rw [if_neg c22] at H
      exact absurd H (by simp)
    ·rw [if_neg c21] at H
     have c21b0 : decide (x40_1 < (t146.length : Int)) = false := decide_eq_false c21
     clear c21
     by_cases c37 : a0_5 = true
     ·subst c37
      rw [if_pos rfl] at H
      by_cases c38 : a0_6 = true
      ·subst c38
       rw [if_pos rfl] at H
       simp only [Option.some.injEq, Prod.mk.injEq] at H
       obtain ⟨rfl, rfl⟩ := H
       have hnb39 := NB138_144.out
       have hnc39 := NB144_138.out
       obtain ⟨z40_0, z40_1, z40_2, z40_3, z40_4, z40_5, z40_6, f40_0, f40_1, f40_2, f40_3, f40_4, f40_5, f40_6⟩ := cf7 BK138
       go_wp2
       go_ret2
       exact ⟨fe, bs2 HB GE138 GE144⟩
      ·replace c38 := Bool.eq_false_iff.mpr c38
       subst c38
       rw [if_neg ff] at H
       simp only [Option.some.injEq, Prod.mk.injEq] at H
       obtain ⟨rfl, rfl⟩ := H
       have hnb41 := NB138_144.out
       have hnc41 := NB144_138.out
       obtain ⟨z42_0, z42_1, z42_2, z42_3, z42_4, z42_5, z42_6, f42_0, f42_1, f42_2, f42_3, f42_4, f42_5, f42_6⟩ := cf7 BK138
       go_wp2
       go_ret2
       exact ⟨fe, bs2 HB GE138 GE144⟩
     ·replace c37 := Bool.eq_false_iff.mpr c37
      subst c37
      rw [if_neg ff] at H
      by_cases c43 : a0_6 = true
      ·subst c43
       rw [if_pos rfl] at H
       simp only [Option.some.injEq, Prod.mk.injEq] at H
       obtain ⟨rfl, rfl⟩ := H
       have hnb44 := NB138_144.out
       have hnc44 := NB144_138.out
       obtain ⟨z45_0, z45_1, z45_2, z45_3, z45_4, z45_5, z45_6, f45_0, f45_1, f45_2, f45_3, f45_4, f45_5, f45_6⟩ := cf7 BK138
       go_wp2
       go_ret2
       exact ⟨fe, bs2 HB GE138 GE144⟩
      ·replace c43 := Bool.eq_false_iff.mpr c43
       subst c43
       rw [if_neg ff] at H
       simp only [Option.some.injEq, Prod.mk.injEq] at H
       obtain ⟨rfl, rfl⟩ := H
       have hnb46 := NB138_144.out
       have hnc46 := NB144_138.out
       obtain ⟨z47_0, z47_1, z47_2, z47_3, z47_4, z47_5, z47_6, f47_0, f47_1, f47_2, f47_3, f47_4, f47_5, f47_6⟩ := cf7 BK138
       go_wp2
       go_ret2
       exact ⟨fe, bs2 HB GE138 GE144⟩
 ·replace c3 := Bool.eq_false_iff.mpr c3
  subst c3
  rw [if_neg ff] at H
  simp only [Option.some.injEq, Prod.mk.injEq] at H
  obtain ⟨rfl, rfl⟩ := H
  go_enter Tryz.func16, Tryz.ntmps16
  go_wp2_with (first | ((with_reducible refine gate_dst (N := 1) rfl ?_); refine be 1 50 #[.int .i64 a0_0, .int .i64 a0_1, .int .i64 a0_2, .int .i64 a0_3, .int .i64 a0_4, .bool a0_5, .bool a0_6] ?_; intro gb138 hg w48 hbox hb; have BK138 := am hbox; have GW138 := bz HB hg; have GE138 := bz HB hg; replace HB := bn HB hb; clear hb hbox hg; obtain ⟨z49_0, z49_1, z49_2, z49_3, z49_4, z49_5, z49_6, f49_0, f49_1, f49_2, f49_3, f49_4, f49_5, f49_6⟩ := cf7 BK138) | ((with_reducible refine gate_callee (f := 39) rfl ?_); refine gl (some 9) rfl rfl Tryz.func39 rfl #[.agg #[.int .i64 a0_0, .int .i64 a0_1, .int .i64 a0_2, .int .i64 a0_3, .int .i64 a0_4, .bool a0_5, .bool a0_6]] rfl ?_; (with_reducible refine (inst_Good.calls a0_0 a0_1 a0_2 a0_3 a0_4 a0_5 a0_6 false _ A2.out).mono ?_); rintro e w50 ⟨rfl, hb⟩; refine ⟨_, rfl, ?_⟩; replace BK138 := bk BK138 hb; replace HB := bns HB GE138 hb; (try clear hb); (try clear hb2); (try clear hk); (try clear hi)))
  go_ret2
  exact ⟨fe, bs HB GE138⟩
theorem or_zero (x : Int) (h : U64 x) : Go.bits .or .u64 x 0 = x := by
 have := or_add x 0 0 0 h (by decide) (by omega) (by omega)
 simpa using this
theorem shr_lit (x : Int) (k : Nat) (h : k ≤ 64) : shr .u64 x (k : Int) = x / 2 ^ k := by
 unfold shr
 rw [Int.toNat_natCast, Nat.min_eq_left (show k ≤ IntKind.u64.bits from h)]
theorem mask_lit (n : Nat) (h : n ≤ 63) : IntKind.u64.wrap (shl .u64 1 (n : Int) - 1) = 2 ^ n - 1 := by
 have hp : (2 : Int) ^ n ≤ 2 ^ 63 := ipow_le n 63 h
 have hp2 := ipos n
 unfold shl
 rw [Int.toNat_natCast, Nat.min_eq_left (show n ≤ IntKind.u64.bits by show _ ≤ 64; omega), Int.one_mul, u64w, u64w]
 omega
theorem inst_Encode0.step (k : Nat) (x imm : Int) (xs : List S93) (i low n at_ : Nat) (op rd rs1 rs2 : Int) (aq rl : Bool) (hi : xs.getD i z93 = ⟨low, n, at_⟩) (hl : i < xs.length) (hs : xs.length < 100) (hx : U64 x) (hk : at_ + n ≤ 64) (h1 : 1 ≤ n) (h2 : n ≤ 63) (hlow : low + n ≤ 64) (hz : x / 2 ^ at_ % 2 ^ n = 0) :
  inst_Encode0.l0 (k + 1) x xs (xs.length : Int) (i : Int) op rd rs1 rs2 imm aq rl = inst_Encode0.l0 k (x + imm / 2 ^ low % 2 ^ n * 2 ^ at_) xs (xs.length : Int) ((i + 1 : Nat) : Int) op rd rs1 rs2 imm aq rl := by
 have e : rd_T93 xs (i : Int) = ⟨low, n, at_⟩ := by unfold rd_T93; rw [Int.toNat_natCast]; exact hi
 obtain ⟨p1, p2⟩ := enc_put x imm at_ n low hx hk h1 h2 hlow hz
 conv => lhs; unfold inst_Encode0.l0
 rw [if_pos (by omega), if_pos (by omega), if_pos (by omega), e]
 simp only []
 rw [if_pos (by omega), if_pos (by omega), if_pos (by omega), shr_lit _ _ (by omega), shr_lit _ _ (by omega), mask_lit _ h2, bits_Place.f, if_pos ⟨hx, p1⟩, p2, Option.bind_some]
 rw [show wrap64 ((i : Int) + 1) = ((i + 1 : Nat) : Int) by unfold wrap64; omega]
theorem inst_Encode0.done (k : Nat) (x imm : Int) (xs : List S93) (op rd rs1 rs2 : Int) (aq rl : Bool) (hx : 0 ≤ x ∧ x < 4294967296) (ha : aq = true → x / 67108864 % 2 = 0) (hr : rl = true → x / 33554432 % 2 = 0) :
  inst_Encode0.l0 (k + 1) x xs (xs.length : Int) (xs.length : Int) op rd rs1 rs2 imm aq rl = some ((x + (if aq then 67108864 else 0) + (if rl then 33554432 else 0)) % 4294967296, 0) := by
 conv => lhs; unfold inst_Encode0.l0
 rw [if_neg (by omega)]
 have h1 : aq = true → Go.bits .or .u64 x 67108864 = x + 67108864 := fun h => or_add x 1 26 1 ⟨by omega, by omega⟩ (by decide) (by omega) (ha h)
 have h2 : rl = true → Go.bits .or .u64 x 33554432 = x + 33554432 := fun h => or_add x 1 25 1 ⟨by omega, by omega⟩ (by decide) (by omega) (hr h)
 have h3 : rl = true → aq = true → Go.bits .or .u64 (x + 67108864) 33554432 = x + 67108864 + 33554432 := fun h h' => or_add (x + 67108864) 1 25 1 ⟨by omega, by omega⟩ (by decide) (by omega) (by have := hr h; show _ / 33554432 % 2 = _; omega)
 cases aq <;> cases rl <;> simp_all
def inst_Encode.f (a0_0 : Int) (a0_1 : Int) (a0_2 : Int) (a0_3 : Int) (a0_4 : Int) (a0_5 : Bool) (a0_6 : Bool) : Option (Int × Int) := if I64 a0_4 then (if goodOf a0_0 a0_1 a0_2 a0_3 a0_4 a0_5 a0_6 = true then some (encOf a0_0 a0_1 a0_2 a0_3 a0_4 a0_5 a0_6, 0) else some (0, 20)) else none
theorem inst_Encode.spec (a0_0 : Int) (a0_1 : Int) (a0_2 : Int) (a0_3 : Int) (a0_4 : Int) (a0_5 : Bool) (a0_6 : Bool) (r1 r2 : Int) (h : inst_Encode.f a0_0 a0_1 a0_2 a0_3 a0_4 a0_5 a0_6 = some (r1, r2)) : ∃ k, inst_Encode0.f k a0_0 a0_1 a0_2 a0_3 a0_4 a0_5 a0_6 = some (r1, r2) := by
 unfold inst_Encode.f at h
 by_cases hI : I64 a0_4
 ·rw [if_pos hI] at h
  rw [← h]
  clear h
  refine ⟨5, ?_⟩
  unfold inst_Encode0.f
  simp only [inst_Good.f, if_pos hI, Option.bind_some]
  by_cases hg : goodOf a0_0 a0_1 a0_2 a0_3 a0_4 a0_5 a0_6 = true
  ·rw [if_pos hg, if_pos hg]
   have hg' := hg
   simp only [goodOf, Bool.and_eq_true, decide_eq_true_eq, regOf] at hg'
   obtain ⟨g0, g1, g2, g3, g4, g5⟩ := hg'
   have b1 : 0 ≤ a0_1 ∧ a0_1 ≤ 31 := by revert g1; split <;> simp <;> omega
   have b2 : 0 ≤ a0_2 ∧ a0_2 ≤ 31 := by revert g2; split <;> simp <;> omega
   have b3 : 0 ≤ a0_3 ∧ a0_3 ≤ 31 := by revert g3; split <;> simp <;> omega
   obtain ⟨n1, n2, n3, n4, n5, n6, n7, n8⟩ := nums_range a0_0
   simp only [inst_of.f, Option.bind_some, inst_row_high.f]
   rw [if_pos ⟨n4.1, by omega, n5⟩]
   simp only [Option.bind_some, encOf]
   generalize codeOf a0_0 = c at *
   generalize f3Of a0_0 = x3 at *
   generalize f7Of a0_0 = x7 at *
   have e1 : wrap64 (x3 * 4096) = x3 * 2 ^ 12 := by unfold wrap64; omega
   have e2 : wrap64 (a0_1 * 128) = a0_1 * 2 ^ 7 := by unfold wrap64; omega
   have e3 : wrap64 (a0_2 * 32768) = a0_2 * 2 ^ 15 := by unfold wrap64; omega
   have e4 : wrap64 (a0_3 * 1048576) = a0_3 * 2 ^ 20 := by unfold wrap64; omega
   rw [e1, e2, e3, e4, or_add_i64 c x3 12 3 (by omega) (by omega) (by omega) (by omega), or_add_i64 _ a0_1 7 5 (by omega) (by omega) (by omega) (by omega), or_add_i64 _ a0_2 15 5 (by omega) (by omega) (by omega) (by omega), or_add_i64 _ a0_3 20 5 (by omega) (by omega) (by omega) (by omega)]
   rw [show IntKind.u64.wrap (c + x3 * 2 ^ 12 + a0_1 * 2 ^ 7 + a0_2 * 2 ^ 15 + a0_3 * 2 ^ 20) = c + x3 * 4096 + a0_1 * 128 + a0_2 * 32768 + a0_3 * 1048576 by rw [u64w]; omega]
   generalize hB : c + x3 * 4096 + a0_1 * 128 + a0_2 * 32768 + a0_3 * 1048576 = B
   generalize hf : formOf a0_0 = f at *
   have hc := form_cases a0_0
   rw [hf] at hc
   rcases hc with rfl | rfl | rfl | rfl | rfl | rfl | rfl | rfl | rfl | rfl | rfl | rfl | rfl
   ·omega
--BEGIN
   ·-- form 1
    simp [hasRd] at g1
    simp [hasRs1] at g2
    simp [hasRs2] at g3
    simp [hasAq] at g5
    have eh : highOf 1 x7 = 0 := rfl
    rw [eh]
    rw [or_zero B (by unfold U64; omega)]
    rw [show inst_places.f 1 = some ([⟨12, 20, 12⟩] : List S93) from rfl, Option.bind_some]
    refine (inst_Encode0.step 4 _ a0_4 _ 0 12 20 12 _ _ _ _ _ _ rfl (by simp) (by simp) (by unfold U64; omega) (by omega) (by omega) (by omega) (by omega) (by omega)).trans ?_
    refine (inst_Encode0.done 3 _ a0_4 _ _ _ _ _ _ _ (by omega) (fun h => absurd (h.symm.trans g5.1) (by decide)) (fun h => absurd (h.symm.trans g5.2) (by decide))).trans ?_
    have ei : immWord 1 a0_4 = a0_4 / 4096 % 1048576 * 4096 := rfl
    rw [ei]
    rw [g5.1, g5.2]
    simp only [Bool.false_eq_true, if_false, Int.add_zero]
    refine congrArg (fun z => some (z, (0 : Int))) ?_
    (try simp only [Int.reducePow])
    omega
   ·-- form 2
    simp [hasRd] at g1
    simp [hasRs1] at g2
    simp [hasRs2] at g3
    simp [hasAq] at g5
    have eh : highOf 2 x7 = 0 := rfl
    rw [eh]
    rw [or_zero B (by unfold U64; omega)]
    rw [show inst_places.f 2 = some ([⟨20, 1, 31⟩, ⟨1, 10, 21⟩, ⟨11, 1, 20⟩, ⟨12, 8, 12⟩] : List S93) from rfl, Option.bind_some]
    refine (inst_Encode0.step 4 _ a0_4 _ 0 20 1 31 _ _ _ _ _ _ rfl (by simp) (by simp) (by unfold U64; omega) (by omega) (by omega) (by omega) (by omega) (by omega)).trans ?_
    refine (inst_Encode0.step 3 _ a0_4 _ 1 1 10 21 _ _ _ _ _ _ rfl (by simp) (by simp) (by unfold U64; omega) (by omega) (by omega) (by omega) (by omega) (by omega)).trans ?_
    refine (inst_Encode0.step 2 _ a0_4 _ 2 11 1 20 _ _ _ _ _ _ rfl (by simp) (by simp) (by unfold U64; omega) (by omega) (by omega) (by omega) (by omega) (by omega)).trans ?_
    refine (inst_Encode0.step 1 _ a0_4 _ 3 12 8 12 _ _ _ _ _ _ rfl (by simp) (by simp) (by unfold U64; omega) (by omega) (by omega) (by omega) (by omega) (by omega)).trans ?_
    refine (inst_Encode0.done 0 _ a0_4 _ _ _ _ _ _ _ (by omega) (fun h => absurd (h.symm.trans g5.1) (by decide)) (fun h => absurd (h.symm.trans g5.2) (by decide))).trans ?_
    have ei : immWord 2 a0_4 = a0_4 / 1048576 % 2 * 2147483648 + a0_4 / 2 % 1024 * 2097152 + a0_4 / 2048 % 2 * 1048576 + a0_4 / 4096 % 256 * 4096 := rfl
    rw [ei]
    rw [g5.1, g5.2]
    simp only [Bool.false_eq_true, if_false, Int.add_zero]
    refine congrArg (fun z => some (z, (0 : Int))) ?_
    (try simp only [Int.reducePow])
    omega
   ·-- form 3
    simp [hasRd] at g1
    simp [hasRs1] at g2
    simp [hasRs2] at g3
    simp [hasAq] at g5
    have eh : highOf 3 x7 = 0 := rfl
    rw [eh]
    rw [or_zero B (by unfold U64; omega)]
    rw [show inst_places.f 3 = some ([⟨0, 12, 20⟩] : List S93) from rfl, Option.bind_some]
    refine (inst_Encode0.step 4 _ a0_4 _ 0 0 12 20 _ _ _ _ _ _ rfl (by simp) (by simp) (by unfold U64; omega) (by omega) (by omega) (by omega) (by omega) (by omega)).trans ?_
    refine (inst_Encode0.done 3 _ a0_4 _ _ _ _ _ _ _ (by omega) (fun h => absurd (h.symm.trans g5.1) (by decide)) (fun h => absurd (h.symm.trans g5.2) (by decide))).trans ?_
    have ei : immWord 3 a0_4 = a0_4 % 4096 * 1048576 := rfl
    rw [ei]
    rw [g5.1, g5.2]
    simp only [Bool.false_eq_true, if_false, Int.add_zero]
    refine congrArg (fun z => some (z, (0 : Int))) ?_
    (try simp only [Int.reducePow])
    omega
   ·-- form 4
    simp [hasRd] at g1
    simp [hasRs1] at g2
    simp [hasRs2] at g3
    simp [hasAq] at g5
    have eh : highOf 4 x7 = 0 := rfl
    rw [eh]
    rw [or_zero B (by unfold U64; omega)]
    rw [show inst_places.f 4 = some ([⟨12, 1, 31⟩, ⟨5, 6, 25⟩, ⟨1, 4, 8⟩, ⟨11, 1, 7⟩] : List S93) from rfl, Option.bind_some]
    refine (inst_Encode0.step 4 _ a0_4 _ 0 12 1 31 _ _ _ _ _ _ rfl (by simp) (by simp) (by unfold U64; omega) (by omega) (by omega) (by omega) (by omega) (by omega)).trans ?_
    refine (inst_Encode0.step 3 _ a0_4 _ 1 5 6 25 _ _ _ _ _ _ rfl (by simp) (by simp) (by unfold U64; omega) (by omega) (by omega) (by omega) (by omega) (by omega)).trans ?_
    refine (inst_Encode0.step 2 _ a0_4 _ 2 1 4 8 _ _ _ _ _ _ rfl (by simp) (by simp) (by unfold U64; omega) (by omega) (by omega) (by omega) (by omega) (by omega)).trans ?_
    refine (inst_Encode0.step 1 _ a0_4 _ 3 11 1 7 _ _ _ _ _ _ rfl (by simp) (by simp) (by unfold U64; omega) (by omega) (by omega) (by omega) (by omega) (by omega)).trans ?_
    refine (inst_Encode0.done 0 _ a0_4 _ _ _ _ _ _ _ (by omega) (fun h => absurd (h.symm.trans g5.1) (by decide)) (fun h => absurd (h.symm.trans g5.2) (by decide))).trans ?_
    have ei : immWord 4 a0_4 = a0_4 / 4096 % 2 * 2147483648 + a0_4 / 32 % 64 * 33554432 + a0_4 / 2 % 16 * 256 + a0_4 / 2048 % 2 * 128 := rfl
    rw [ei]
    rw [g5.1, g5.2]
    simp only [Bool.false_eq_true, if_false, Int.add_zero]
    refine congrArg (fun z => some (z, (0 : Int))) ?_
    (try simp only [Int.reducePow])
    omega
   ·-- form 5
    simp [hasRd] at g1
    simp [hasRs1] at g2
    simp [hasRs2] at g3
    simp [hasAq] at g5
    have eh : highOf 5 x7 = 0 := rfl
    rw [eh]
    rw [or_zero B (by unfold U64; omega)]
    rw [show inst_places.f 5 = some ([⟨5, 7, 25⟩, ⟨0, 5, 7⟩] : List S93) from rfl, Option.bind_some]
    refine (inst_Encode0.step 4 _ a0_4 _ 0 5 7 25 _ _ _ _ _ _ rfl (by simp) (by simp) (by unfold U64; omega) (by omega) (by omega) (by omega) (by omega) (by omega)).trans ?_
    refine (inst_Encode0.step 3 _ a0_4 _ 1 0 5 7 _ _ _ _ _ _ rfl (by simp) (by simp) (by unfold U64; omega) (by omega) (by omega) (by omega) (by omega) (by omega)).trans ?_
    refine (inst_Encode0.done 2 _ a0_4 _ _ _ _ _ _ _ (by omega) (fun h => absurd (h.symm.trans g5.1) (by decide)) (fun h => absurd (h.symm.trans g5.2) (by decide))).trans ?_
    have ei : immWord 5 a0_4 = a0_4 / 32 % 128 * 33554432 + a0_4 % 32 * 128 := rfl
    rw [ei]
    rw [g5.1, g5.2]
    simp only [Bool.false_eq_true, if_false, Int.add_zero]
    refine congrArg (fun z => some (z, (0 : Int))) ?_
    (try simp only [Int.reducePow])
    omega
   ·-- form 6
    simp [hasRd] at g1
    simp [hasRs1] at g2
    simp [hasRs2] at g3
    simp [hasAq] at g5
    have eh : highOf 6 x7 = x7 * 33554432 := rfl
    rw [eh]
    rw [show (x7 * 33554432 : Int) = x7 * 2 ^ 25 from rfl, or_add B x7 25 7 (by unfold U64; omega) (by omega) (by omega) (by omega)]
    rw [show inst_places.f 6 = some ([⟨0, 6, 20⟩] : List S93) from rfl, Option.bind_some]
    refine (inst_Encode0.step 4 _ a0_4 _ 0 0 6 20 _ _ _ _ _ _ rfl (by simp) (by simp) (by unfold U64; omega) (by omega) (by omega) (by omega) (by omega) (by omega)).trans ?_
    refine (inst_Encode0.done 3 _ a0_4 _ _ _ _ _ _ _ (by omega) (fun h => absurd (h.symm.trans g5.1) (by decide)) (fun h => absurd (h.symm.trans g5.2) (by decide))).trans ?_
    have ei : immWord 6 a0_4 = a0_4 % 64 * 1048576 := rfl
    rw [ei]
    rw [g5.1, g5.2]
    simp only [Bool.false_eq_true, if_false, Int.add_zero]
    refine congrArg (fun z => some (z, (0 : Int))) ?_
    (try simp only [Int.reducePow])
    omega
   ·-- form 7
    simp [hasRd] at g1
    simp [hasRs1] at g2
    simp [hasRs2] at g3
    simp [hasAq] at g5
    have eh : highOf 7 x7 = x7 * 33554432 := rfl
    rw [eh]
    rw [show (x7 * 33554432 : Int) = x7 * 2 ^ 25 from rfl, or_add B x7 25 7 (by unfold U64; omega) (by omega) (by omega) (by omega)]
    rw [show inst_places.f 7 = some ([⟨0, 5, 20⟩] : List S93) from rfl, Option.bind_some]
    refine (inst_Encode0.step 4 _ a0_4 _ 0 0 5 20 _ _ _ _ _ _ rfl (by simp) (by simp) (by unfold U64; omega) (by omega) (by omega) (by omega) (by omega) (by omega)).trans ?_
    refine (inst_Encode0.done 3 _ a0_4 _ _ _ _ _ _ _ (by omega) (fun h => absurd (h.symm.trans g5.1) (by decide)) (fun h => absurd (h.symm.trans g5.2) (by decide))).trans ?_
    have ei : immWord 7 a0_4 = a0_4 % 32 * 1048576 := rfl
    rw [ei]
    rw [g5.1, g5.2]
    simp only [Bool.false_eq_true, if_false, Int.add_zero]
    refine congrArg (fun z => some (z, (0 : Int))) ?_
    (try simp only [Int.reducePow])
    omega
   ·-- form 8
    simp [hasRd] at g1
    simp [hasRs1] at g2
    simp [hasRs2] at g3
    simp [hasAq] at g5
    have eh : highOf 8 x7 = x7 * 33554432 := rfl
    rw [eh]
    rw [show (x7 * 33554432 : Int) = x7 * 2 ^ 25 from rfl, or_add B x7 25 7 (by unfold U64; omega) (by omega) (by omega) (by omega)]
    rw [show inst_places.f 8 = some ([] : List S93) from rfl, Option.bind_some]
    refine (inst_Encode0.done 4 _ a0_4 _ _ _ _ _ _ _ (by omega) (fun h => absurd (h.symm.trans g5.1) (by decide)) (fun h => absurd (h.symm.trans g5.2) (by decide))).trans ?_
    have ei : immWord 8 a0_4 = 0 := rfl
    rw [ei]
    rw [g5.1, g5.2]
    simp only [Bool.false_eq_true, if_false, Int.add_zero]
    refine congrArg (fun z => some (z, (0 : Int))) ?_
    (try simp only [Int.reducePow])
    omega
   ·-- form 9
    simp [hasRd] at g1
    simp [hasRs1] at g2
    simp [hasRs2] at g3
    simp [hasAq] at g5
    have eh : highOf 9 x7 = 0 := rfl
    rw [eh]
    rw [or_zero B (by unfold U64; omega)]
    rw [show inst_places.f 9 = some ([⟨0, 8, 20⟩] : List S93) from rfl, Option.bind_some]
    refine (inst_Encode0.step 4 _ a0_4 _ 0 0 8 20 _ _ _ _ _ _ rfl (by simp) (by simp) (by unfold U64; omega) (by omega) (by omega) (by omega) (by omega) (by omega)).trans ?_
    refine (inst_Encode0.done 3 _ a0_4 _ _ _ _ _ _ _ (by omega) (fun h => absurd (h.symm.trans g5.1) (by decide)) (fun h => absurd (h.symm.trans g5.2) (by decide))).trans ?_
    have ei : immWord 9 a0_4 = a0_4 % 256 * 1048576 := rfl
    rw [ei]
    rw [g5.1, g5.2]
    simp only [Bool.false_eq_true, if_false, Int.add_zero]
    refine congrArg (fun z => some (z, (0 : Int))) ?_
    (try simp only [Int.reducePow])
    omega
   ·-- form 10
    simp [hasRd] at g1
    simp [hasRs1] at g2
    simp [hasRs2] at g3
    simp [hasAq] at g5
    have eh : highOf 10 x7 = x7 * 1048576 := rfl
    rw [eh]
    rw [show (x7 * 1048576 : Int) = x7 * 2 ^ 20 from rfl, or_add B x7 20 7 (by unfold U64; omega) (by omega) (by omega) (by omega)]
    rw [show inst_places.f 10 = some ([] : List S93) from rfl, Option.bind_some]
    refine (inst_Encode0.done 4 _ a0_4 _ _ _ _ _ _ _ (by omega) (fun h => absurd (h.symm.trans g5.1) (by decide)) (fun h => absurd (h.symm.trans g5.2) (by decide))).trans ?_
    have ei : immWord 10 a0_4 = 0 := rfl
    rw [ei]
    rw [g5.1, g5.2]
    simp only [Bool.false_eq_true, if_false, Int.add_zero]
    refine congrArg (fun z => some (z, (0 : Int))) ?_
    (try simp only [Int.reducePow])
    omega
   ·-- form 11
    simp [hasRd] at g1
    simp [hasRs1] at g2
    simp [hasRs2] at g3
    clear g5
    have eh : highOf 11 x7 = x7 * 134217728 := rfl
    rw [eh]
    rw [show (x7 * 134217728 : Int) = x7 * 2 ^ 27 from rfl, or_add B x7 27 5 (by unfold U64; omega) (by omega) (by omega) (by omega)]
    rw [show inst_places.f 11 = some ([] : List S93) from rfl, Option.bind_some]
    refine (inst_Encode0.done 4 _ a0_4 _ _ _ _ _ _ _ (by omega) (fun _ => by omega) (fun _ => by omega)).trans ?_
    have ei : immWord 11 a0_4 = 0 := rfl
    rw [ei]
    have hq : 0 ≤ (if a0_5 = true then (67108864 : Int) else 0) + (if a0_6 = true then (33554432 : Int) else 0) ∧ (if a0_5 = true then (67108864 : Int) else 0) + (if a0_6 = true then (33554432 : Int) else 0) ≤ 100663296 := by split <;> split <;> omega
    refine congrArg (fun z => some (z, (0 : Int))) ?_
    (try simp only [Int.reducePow])
    omega
   ·-- form 12
    simp [hasRd] at g1
    simp [hasRs1] at g2
    simp [hasRs2] at g3
    clear g5
    have eh : highOf 12 x7 = x7 * 134217728 := rfl
    rw [eh]
    rw [show (x7 * 134217728 : Int) = x7 * 2 ^ 27 from rfl, or_add B x7 27 5 (by unfold U64; omega) (by omega) (by omega) (by omega)]
    rw [show inst_places.f 12 = some ([] : List S93) from rfl, Option.bind_some]
    refine (inst_Encode0.done 4 _ a0_4 _ _ _ _ _ _ _ (by omega) (fun _ => by omega) (fun _ => by omega)).trans ?_
    have ei : immWord 12 a0_4 = 0 := rfl
    rw [ei]
    have hq : 0 ≤ (if a0_5 = true then (67108864 : Int) else 0) + (if a0_6 = true then (33554432 : Int) else 0) ∧ (if a0_5 = true then (67108864 : Int) else 0) + (if a0_6 = true then (33554432 : Int) else 0) ≤ 100663296 := by split <;> split <;> omega
    refine congrArg (fun z => some (z, (0 : Int))) ?_
    (try simp only [Int.reducePow])
    omega
--END
  ·rw [if_neg hg, if_neg hg]
 ·rw [if_neg hI] at h; exact absurd h (by simp)
theorem inst_Encode.calls (a0_0 : Int) (a0_1 : Int) (a0_2 : Int) (a0_3 : Int) (a0_4 : Int) (a0_5 : Bool) (a0_6 : Bool) (r1 : Int) (r2 : Int) (w : World) (h : inst_Encode.f a0_0 a0_1 a0_2 a0_3 a0_4 a0_5 a0_6 = some (r1, r2)) :
  Calls Tryz.prog 16 #[.agg #[.int .i64 a0_0, .int .i64 a0_1, .int .i64 a0_2, .int .i64 a0_3, .int .i64 a0_4, .bool a0_5, .bool a0_6]] w fun e w' => e = .returned (.tuple #[.int .u32 r1, .int .i64 r2]) ∧ Below w.heap.size w w' := by
 obtain ⟨k, hk⟩ := inst_Encode.spec a0_0 a0_1 a0_2 a0_3 a0_4 a0_5 a0_6 r1 r2 h
 exact inst_Encode0.calls k a0_0 a0_1 a0_2 a0_3 a0_4 a0_5 a0_6 r1 r2 w hk
def inst_Decode0.l0 : Nat → Int → Int → Int → Option (Int × Int × Int × Int × Int × Bool × Bool × Int)
 | 0, _, _, _ => none
 | k + 1, x0, x4, x13 => if x13 < 87 then ((inst_near.f (wrap64 (x13 + 1)) x4).bind fun t156 => (if t156 = true then ((inst_of.f (wrap64 (x13 + 1))).bind fun bt157 => ((inst_as.f (wrap64 (x13 + 1)) bt157.1 bt157.2.1 bt157.2.2.1 bt157.2.2.2 (IntKind.u64.wrap (x0))).bind fun bt162 => ((inst_Encode.f bt162.1 bt162.2.1 bt162.2.2.1 bt162.2.2.2.1 bt162.2.2.2.2.1 bt162.2.2.2.2.2.1 bt162.2.2.2.2.2.2).bind fun bt170 => (if bt170.2 = 0 then (if bt170.1 = x0 then (some (bt162.1, bt162.2.1, bt162.2.2.1, bt162.2.2.2.1, bt162.2.2.2.2.1, bt162.2.2.2.2.2.1, bt162.2.2.2.2.2.2, 0)) else (inst_Decode0.l0 k x0 x4 (wrap64 (x13 + 1)))) else (inst_Decode0.l0 k x0 x4 (wrap64 (x13 + 1))))))) else (inst_Decode0.l0 k x0 x4 (wrap64 (x13 + 1))))) else (some (0, 0, 0, 0, 0, false, false, 21))
def inst_Decode0.f (k : Nat) (a0 : Int) : Option (Int × Int × Int × Int × Int × Bool × Bool × Int) := inst_Decode0.l0 k a0 (wrap64 (Go.bits .and .u32 a0 127)) 0
theorem inst_Decode0.mono_l : ∀ k, (∀ y0 y1 y2, LeO (inst_Decode0.l0 k y0 y1 y2) (inst_Decode0.l0 (k + 1) y0 y1 y2))
 | 0 => fun _ _ _ r h => by simp [inst_Decode0.l0] at h
 | k + 1 => by
  have ih0 := inst_Decode0.mono_l k
  ·intro y0 y1 y2
   unfold inst_Decode0.l0
   exact leo
theorem inst_Decode0.mono : ∀ a0 k, LeO (inst_Decode0.f k a0) (inst_Decode0.f (k + 1) a0) := by
 intro a0 k
 have ih0 := inst_Decode0.mono_l k
 unfold inst_Decode0.f
 exact leo
set_option maxHeartbeats 8000000 in
set_option maxRecDepth 100000 in
theorem inst_Decode0.calls (k : Nat) (a0 : Int) (r1 : Int) (r2 : Int) (r3 : Int) (r4 : Int) (r5 : Int) (r6 : Bool) (r7 : Bool) (r8 : Int) (w : World) (h : inst_Decode0.f k a0 = some (r1, r2, r3, r4, r5, r6, r7, r8)) :
  Calls Tryz.prog 24 #[.int .u32 a0] w fun e w' => e = .returned (.tuple #[.agg #[.int .i64 r1, .int .i64 r2, .int .i64 r3, .int .i64 r4, .int .i64 r5, .bool r6, .bool r7], .int .i64 r8]) ∧ Below w.heap.size w w' := by
 have hu50 := Tryz.underlying50
 have hu87 := Tryz.underlying87
 have HB := am (Below.refl w.heap.size w)
 have H := h
 clear h
 unfold inst_Decode0.f at H
 have H' := am H
 clear H
 go_enter Tryz.func24, Tryz.ntmps24
 go_wp2_with (first | ((with_reducible refine gate_dst (N := 2) rfl ?_); refine be 2 50 #[.int .i64 0, .int .i64 0, .int .i64 0, .int .i64 0, .int .i64 0, .bool false, .bool false] ?_; intro gb155 hg w2 hbox hb; have BK155 := am hbox; have GW155 := bz HB hg; have GE155 := bz HB hg; replace HB := bn HB hb; clear hb hbox hg))
 go_loopg [13] k (fun kq v13 w' => ∃ (x13_1 : Int) (x156000_1 : Int) (x156001_1 : Int) (x156002_1 : Int) (x156003_1 : Int) (x156004_1 : Int) (x156005_1 : Bool) (x156006_1 : Bool), v13 = .int .i64 x13_1 ∧ Aside0 (inst_Decode0.l0 kq a0 (wrap64 (Go.bits .and .u32 a0 127)) x13_1 = some (r1, r2, r3, r4, r5, r6, r7, r8)) ∧ Aside0 (kq ≤ k) ∧ Aside0 (w'.heap[gb155]? = some (.cells #[.int .i64 x156000_1, .int .i64 x156001_1, .int .i64 x156002_1, .int .i64 x156003_1, .int .i64 x156004_1, .bool x156005_1, .bool x156006_1] 50 (0, 0))) ∧ Aside0 (Below w.heap.size w w'))
 case atStart => exact ⟨(0), (0), (0), (0), (0), (0), (false), (false), fr, H', ⟨Nat.le_refl _⟩, ⟨bu BK155⟩, ⟨bs HB GE155⟩⟩
 case round =>
  clear H'
  try clear c2
  try clear p2
  obtain ⟨x13_1, x156000_1, x156001_1, x156002_1, x156003_1, x156004_1, x156005_1, x156006_1, rfl, HA, HK1, BK155, HB⟩ := hrel
  cases gk with
  | zero => exact absurd HA.out (by simp [inst_Decode0.l0])
  | succ k1 =>
   have H := HA.out
   clear HA
   simp only [inst_Decode0.l0] at H
   by_cases c3 : x13_1 < 87
   ·rw [if_pos c3] at H
    have c3b0 : decide (x13_1 < 87) = true := decide_eq_true c3
    clear c3
    obtain ⟨t156, A4, H⟩ := bam H
    try dsimp only at H
    by_cases c5 : t156 = true
    ·subst c5
     rw [if_pos rfl] at H
     obtain ⟨⟨t157, t158, t159, t160⟩, A6, H⟩ := bam H
     try dsimp only at H
     obtain ⟨⟨t162, t163, t164, t165, t166, t167, t168⟩, A7, H⟩ := bam H
     try dsimp only at H
     obtain ⟨⟨t170, t171⟩, A8, H⟩ := bam H
     try dsimp only at H
     by_cases c9 : t171 = 0
     ·rw [if_pos c9] at H
      obtain ⟨c9b0, c9b1⟩ := bqt c9
      clear c9
      by_cases c10 : t170 = a0
      ·rw [if_pos c10] at H
       obtain ⟨c10b0, c10b1⟩ := bqt c10
       clear c10
       simp only [Option.some.injEq, Prod.mk.injEq] at H
       obtain ⟨rfl, rfl, rfl, rfl, rfl, rfl, rfl, rfl⟩ := H
       go_wp2_with (first | ((with_reducible refine gate_callee (f := 47) rfl ?_); refine gl (some 19) rfl rfl Tryz.func47 rfl #[.int .i64 (wrap64 (x13_1 + 1)), .int .i64 (wrap64 (Go.bits .and .u32 a0 127))] rfl ?_; (with_reducible refine (inst_near.calls (wrap64 (x13_1 + 1)) (wrap64 (Go.bits .and .u32 a0 127)) true _ A4.out).mono ?_); rintro e w11 ⟨rfl, hb⟩; refine ⟨_, rfl, ?_⟩; replace BK155 := bk BK155 hb; replace HB := bns HB GE155 hb; (try clear hb); (try clear hb2); (try clear hk); (try clear hi)) | ((with_reducible refine gate_callee (f := 40) rfl ?_); refine gl (some 23) rfl rfl Tryz.func40 rfl #[.int .i64 (wrap64 (x13_1 + 1))] rfl ?_; (with_reducible refine (inst_of.calls (wrap64 (x13_1 + 1)) t157 t158 t159 t160 _ A6.out).mono ?_); rintro e w12 ⟨rfl, hb⟩; refine ⟨_, rfl, ?_⟩; replace BK155 := bk BK155 hb; replace HB := bns HB GE155 hb; (try clear hb); (try clear hb2); (try clear hk); (try clear hi)) | ((with_reducible refine gate_dst (N := 6) rfl ?_); refine be 6 87 #[.int .i64 0, .int .i64 0, .int .i64 0, .int .i64 0] ?_; intro gb161 hg w13 hbox hb; have BK161 := am hbox; have GW161 := bzs HB GE155 hg; have GE161 := bzs HB GE155 hg; have NB155_161 := nl BK155 hg; have NB161_155 := ng BK155 hg; replace BK155 := bk BK155 hb; replace HB := bns HB GE155 hb; clear hb hbox hg; have hnb14 := NB161_155.out; have hnc14 := NB155_161.out; obtain ⟨z15_0, z15_1, z15_2, z15_3, f15_0, f15_1, f15_2, f15_3⟩ := cf4 BK161) | ((with_reducible refine gate_callee (f := 48) rfl ?_); refine gl (some 29) rfl rfl Tryz.func48 rfl #[.int .i64 (wrap64 (x13_1 + 1)), .agg #[.int .i64 t157, .int .i64 t158, .int .i64 t159, .int .i64 t160], .int .u64 (IntKind.u64.wrap (a0))] rfl ?_; (with_reducible refine (inst_as.calls (wrap64 (x13_1 + 1)) t157 t158 t159 t160 (IntKind.u64.wrap (a0)) t162 t163 t164 t165 t166 t167 t168 _ A7.out).mono ?_); rintro e w16 ⟨rfl, hb⟩; refine ⟨_, rfl, ?_⟩; have n0_ := am (blk_below (g := gb155) (o := .cells #[.int .i64 x156000_1, .int .i64 x156001_1, .int .i64 x156002_1, .int .i64 x156003_1, .int .i64 x156004_1, .bool x156005_1, .bool x156006_1] 50 (0, 0)) (by (with_reducible repeat (first | refine blk_drewN ?_ _ | refine blk_drew ?_ | refine blk_alloc ?_ _)); refine blk_far ?_ NB155_161.out _; (with_reducible repeat (first | refine blk_drewN ?_ _ | refine blk_drew ?_ | refine blk_alloc ?_ _)); refine blk_far ?_ NB155_161.out _; (with_reducible repeat (first | refine blk_drewN ?_ _ | refine blk_drew ?_ | refine blk_alloc ?_ _)); refine blk_far ?_ NB155_161.out _; (with_reducible repeat (first | refine blk_drewN ?_ _ | refine blk_drew ?_ | refine blk_alloc ?_ _)); refine blk_far ?_ NB155_161.out _; (with_reducible repeat (first | refine blk_drewN ?_ _ | refine blk_drew ?_ | refine blk_alloc ?_ _)); exact BK155.out) hb); have n1_ := am (blk_below (g := gb161) (o := .cells #[.int .i64 t157, .int .i64 t158, .int .i64 t159, .int .i64 t160] 87 (0, 0)) (by (with_reducible repeat (first | refine blk_drewN ?_ _ | refine blk_drew ?_ | refine blk_alloc ?_ _)); refine blk_put (cs := #[.int .i64 t157, .int .i64 t158, .int .i64 t159, .int .i64 0]) ?_ 3 _ rfl; (with_reducible repeat (first | refine blk_drewN ?_ _ | refine blk_drew ?_ | refine blk_alloc ?_ _)); refine blk_put (cs := #[.int .i64 t157, .int .i64 t158, .int .i64 0, .int .i64 0]) ?_ 2 _ rfl; (with_reducible repeat (first | refine blk_drewN ?_ _ | refine blk_drew ?_ | refine blk_alloc ?_ _)); refine blk_put (cs := #[.int .i64 t157, .int .i64 0, .int .i64 0, .int .i64 0]) ?_ 1 _ rfl; (with_reducible repeat (first | refine blk_drewN ?_ _ | refine blk_drew ?_ | refine blk_alloc ?_ _)); refine blk_put (cs := #[.int .i64 0, .int .i64 0, .int .i64 0, .int .i64 0]) ?_ 0 _ rfl; (with_reducible repeat (first | refine blk_drewN ?_ _ | refine blk_drew ?_ | refine blk_alloc ?_ _)); exact BK161.out) hb); have n2_ := bns2 HB GE155 GE161 hb; clear BK155; clear BK161; clear HB; have BK155 := n0_; have BK161 := n1_; have HB := n2_; clear n0_ n1_ n2_; (try clear hb); (try clear hb2); (try clear hk); (try clear hi)) | ((with_reducible refine gate_dst (N := 7) rfl ?_); refine be 7 50 #[.int .i64 0, .int .i64 0, .int .i64 0, .int .i64 0, .int .i64 0, .bool false, .bool false] ?_; intro gb169 hg w17 hbox hb; have BK169 := am hbox; have GW169 := bzs2 HB GE155 GE161 hg; have GE169 := bzs2 HB GE155 GE161 hg; have NB155_169 := nl BK155 hg; have NB169_155 := ng BK155 hg; have NB161_169 := nl BK161 hg; have NB169_161 := ng BK161 hg; replace BK155 := bk BK155 hb; replace BK161 := bk BK161 hb; replace HB := bns2 HB GE155 GE161 hb; clear hb hbox hg; have hnb18 := NB169_155.out; have hnc18 := NB155_169.out; have hnb19 := NB169_161.out; have hnc19 := NB161_169.out; obtain ⟨z20_0, z20_1, z20_2, z20_3, z20_4, z20_5, z20_6, f20_0, f20_1, f20_2, f20_3, f20_4, f20_5, f20_6⟩ := cf7 BK169) | ((with_reducible refine gate_callee (f := 16) rfl ?_); refine gl (some 32) rfl rfl Tryz.func16 rfl #[.agg #[.int .i64 t162, .int .i64 t163, .int .i64 t164, .int .i64 t165, .int .i64 t166, .bool t167, .bool t168]] rfl ?_; (with_reducible refine (inst_Encode.calls t162 t163 t164 t165 t166 t167 t168 t170 t171 _ A8.out).mono ?_); rintro e w21 ⟨rfl, hb⟩; refine ⟨_, rfl, ?_⟩; have n0_ := am (blk_below (g := gb155) (o := .cells #[.int .i64 x156000_1, .int .i64 x156001_1, .int .i64 x156002_1, .int .i64 x156003_1, .int .i64 x156004_1, .bool x156005_1, .bool x156006_1] 50 (0, 0)) (by (with_reducible repeat (first | refine blk_drewN ?_ _ | refine blk_drew ?_ | refine blk_alloc ?_ _)); refine blk_far ?_ NB155_169.out _; (with_reducible repeat (first | refine blk_drewN ?_ _ | refine blk_drew ?_ | refine blk_alloc ?_ _)); refine blk_far ?_ NB155_169.out _; (with_reducible repeat (first | refine blk_drewN ?_ _ | refine blk_drew ?_ | refine blk_alloc ?_ _)); refine blk_far ?_ NB155_169.out _; (with_reducible repeat (first | refine blk_drewN ?_ _ | refine blk_drew ?_ | refine blk_alloc ?_ _)); refine blk_far ?_ NB155_169.out _; (with_reducible repeat (first | refine blk_drewN ?_ _ | refine blk_drew ?_ | refine blk_alloc ?_ _)); refine blk_far ?_ NB155_169.out _; (with_reducible repeat (first | refine blk_drewN ?_ _ | refine blk_drew ?_ | refine blk_alloc ?_ _)); refine blk_far ?_ NB155_169.out _; (with_reducible repeat (first | refine blk_drewN ?_ _ | refine blk_drew ?_ | refine blk_alloc ?_ _)); refine blk_far ?_ NB155_169.out _; (with_reducible repeat (first | refine blk_drewN ?_ _ | refine blk_drew ?_ | refine blk_alloc ?_ _)); exact BK155.out) hb); have n1_ := am (blk_below (g := gb161) (o := .cells #[.int .i64 t157, .int .i64 t158, .int .i64 t159, .int .i64 t160] 87 (0, 0)) (by (with_reducible repeat (first | refine blk_drewN ?_ _ | refine blk_drew ?_ | refine blk_alloc ?_ _)); refine blk_far ?_ NB161_169.out _; (with_reducible repeat (first | refine blk_drewN ?_ _ | refine blk_drew ?_ | refine blk_alloc ?_ _)); refine blk_far ?_ NB161_169.out _; (with_reducible repeat (first | refine blk_drewN ?_ _ | refine blk_drew ?_ | refine blk_alloc ?_ _)); refine blk_far ?_ NB161_169.out _; (with_reducible repeat (first | refine blk_drewN ?_ _ | refine blk_drew ?_ | refine blk_alloc ?_ _)); refine blk_far ?_ NB161_169.out _; (with_reducible repeat (first | refine blk_drewN ?_ _ | refine blk_drew ?_ | refine blk_alloc ?_ _)); refine blk_far ?_ NB161_169.out _; (with_reducible repeat (first | refine blk_drewN ?_ _ | refine blk_drew ?_ | refine blk_alloc ?_ _)); refine blk_far ?_ NB161_169.out _; (with_reducible repeat (first | refine blk_drewN ?_ _ | refine blk_drew ?_ | refine blk_alloc ?_ _)); refine blk_far ?_ NB161_169.out _; (with_reducible repeat (first | refine blk_drewN ?_ _ | refine blk_drew ?_ | refine blk_alloc ?_ _)); exact BK161.out) hb); have n2_ := am (blk_below (g := gb169) (o := .cells #[.int .i64 t162, .int .i64 t163, .int .i64 t164, .int .i64 t165, .int .i64 t166, .bool t167, .bool t168] 50 (0, 0)) (by (with_reducible repeat (first | refine blk_drewN ?_ _ | refine blk_drew ?_ | refine blk_alloc ?_ _)); refine blk_put (cs := #[.int .i64 t162, .int .i64 t163, .int .i64 t164, .int .i64 t165, .int .i64 t166, .bool t167, .bool false]) ?_ 6 _ rfl; (with_reducible repeat (first | refine blk_drewN ?_ _ | refine blk_drew ?_ | refine blk_alloc ?_ _)); refine blk_put (cs := #[.int .i64 t162, .int .i64 t163, .int .i64 t164, .int .i64 t165, .int .i64 t166, .bool false, .bool false]) ?_ 5 _ rfl; (with_reducible repeat (first | refine blk_drewN ?_ _ | refine blk_drew ?_ | refine blk_alloc ?_ _)); refine blk_put (cs := #[.int .i64 t162, .int .i64 t163, .int .i64 t164, .int .i64 t165, .int .i64 0, .bool false, .bool false]) ?_ 4 _ rfl; (with_reducible repeat (first | refine blk_drewN ?_ _ | refine blk_drew ?_ | refine blk_alloc ?_ _)); refine blk_put (cs := #[.int .i64 t162, .int .i64 t163, .int .i64 t164, .int .i64 0, .int .i64 0, .bool false, .bool false]) ?_ 3 _ rfl; (with_reducible repeat (first | refine blk_drewN ?_ _ | refine blk_drew ?_ | refine blk_alloc ?_ _)); refine blk_put (cs := #[.int .i64 t162, .int .i64 t163, .int .i64 0, .int .i64 0, .int .i64 0, .bool false, .bool false]) ?_ 2 _ rfl; (with_reducible repeat (first | refine blk_drewN ?_ _ | refine blk_drew ?_ | refine blk_alloc ?_ _)); refine blk_put (cs := #[.int .i64 t162, .int .i64 0, .int .i64 0, .int .i64 0, .int .i64 0, .bool false, .bool false]) ?_ 1 _ rfl; (with_reducible repeat (first | refine blk_drewN ?_ _ | refine blk_drew ?_ | refine blk_alloc ?_ _)); refine blk_put (cs := #[.int .i64 0, .int .i64 0, .int .i64 0, .int .i64 0, .int .i64 0, .bool false, .bool false]) ?_ 0 _ rfl; (with_reducible repeat (first | refine blk_drewN ?_ _ | refine blk_drew ?_ | refine blk_alloc ?_ _)); exact BK169.out) hb); have n3_ := bns3 HB GE155 GE161 GE169 hb; clear BK155; clear BK161; clear BK169; clear HB; have BK155 := n0_; have BK161 := n1_; have BK169 := n2_; have HB := n3_; clear n0_ n1_ n2_ n3_; (try clear hb); (try clear hb2); (try clear hk); (try clear hi); obtain ⟨z22_0, z22_1, z22_2, z22_3, z22_4, z22_5, z22_6, f22_0, f22_1, f22_2, f22_3, f22_4, f22_5, f22_6⟩ := cf7 BK169; obtain ⟨z23_0, z23_1, z23_2, z23_3, z23_4, z23_5, z23_6, f23_0, f23_1, f23_2, f23_3, f23_4, f23_5, f23_6⟩ := cf7 BK155))
       refine bodyPost_ret (results_ct rfl _ _ gb155 50 #[.int .i64 t162, .int .i64 t163, .int .i64 t164, .int .i64 t165, .int .i64 t166, .bool t167, .bool t168] (0, 0) _ rfl (by (with_reducible repeat (first | refine blk_drewN ?_ _ | refine blk_drew ?_ | refine blk_alloc ?_ _)); refine blk_put (cs := #[.int .i64 t162, .int .i64 t163, .int .i64 t164, .int .i64 t165, .int .i64 t166, .bool t167, .bool x156006_1]) ?_ 6 _ rfl; (with_reducible repeat (first | refine blk_drewN ?_ _ | refine blk_drew ?_ | refine blk_alloc ?_ _)); refine blk_put (cs := #[.int .i64 t162, .int .i64 t163, .int .i64 t164, .int .i64 t165, .int .i64 t166, .bool x156005_1, .bool x156006_1]) ?_ 5 _ rfl; (with_reducible repeat (first | refine blk_drewN ?_ _ | refine blk_drew ?_ | refine blk_alloc ?_ _)); refine blk_put (cs := #[.int .i64 t162, .int .i64 t163, .int .i64 t164, .int .i64 t165, .int .i64 x156004_1, .bool x156005_1, .bool x156006_1]) ?_ 4 _ rfl; (with_reducible repeat (first | refine blk_drewN ?_ _ | refine blk_drew ?_ | refine blk_alloc ?_ _)); refine blk_put (cs := #[.int .i64 t162, .int .i64 t163, .int .i64 t164, .int .i64 x156003_1, .int .i64 x156004_1, .bool x156005_1, .bool x156006_1]) ?_ 3 _ rfl; (with_reducible repeat (first | refine blk_drewN ?_ _ | refine blk_drew ?_ | refine blk_alloc ?_ _)); refine blk_put (cs := #[.int .i64 t162, .int .i64 t163, .int .i64 x156002_1, .int .i64 x156003_1, .int .i64 x156004_1, .bool x156005_1, .bool x156006_1]) ?_ 2 _ rfl; (with_reducible repeat (first | refine blk_drewN ?_ _ | refine blk_drew ?_ | refine blk_alloc ?_ _)); refine blk_put (cs := #[.int .i64 t162, .int .i64 x156001_1, .int .i64 x156002_1, .int .i64 x156003_1, .int .i64 x156004_1, .bool x156005_1, .bool x156006_1]) ?_ 1 _ rfl; (with_reducible repeat (first | refine blk_drewN ?_ _ | refine blk_drew ?_ | refine blk_alloc ?_ _)); refine blk_put (cs := #[.int .i64 x156000_1, .int .i64 x156001_1, .int .i64 x156002_1, .int .i64 x156003_1, .int .i64 x156004_1, .bool x156005_1, .bool x156006_1]) ?_ 0 _ rfl; (with_reducible repeat (first | refine blk_drewN ?_ _ | refine blk_drew ?_ | refine blk_alloc ?_ _)); exact BK155.out) Tryz.underlying50 rfl (by kernel_rfl)) rfl ?_
       exact ⟨fe, bs3 HB GE155 GE161 GE169⟩
      ·rw [if_neg c10] at H
       obtain ⟨c10b0, c10b1⟩ := bqf c10
       have H' := am H
       clear H
       go_wp2_with (first | ((with_reducible refine gate_callee (f := 47) rfl ?_); refine gl (some 19) rfl rfl Tryz.func47 rfl #[.int .i64 (wrap64 (x13_1 + 1)), .int .i64 (wrap64 (Go.bits .and .u32 a0 127))] rfl ?_; (with_reducible refine (inst_near.calls (wrap64 (x13_1 + 1)) (wrap64 (Go.bits .and .u32 a0 127)) true _ A4.out).mono ?_); rintro e w24 ⟨rfl, hb⟩; refine ⟨_, rfl, ?_⟩; replace BK155 := bk BK155 hb; replace HB := bns HB GE155 hb; (try clear hb); (try clear hb2); (try clear hk); (try clear hi)) | ((with_reducible refine gate_callee (f := 40) rfl ?_); refine gl (some 23) rfl rfl Tryz.func40 rfl #[.int .i64 (wrap64 (x13_1 + 1))] rfl ?_; (with_reducible refine (inst_of.calls (wrap64 (x13_1 + 1)) t157 t158 t159 t160 _ A6.out).mono ?_); rintro e w25 ⟨rfl, hb⟩; refine ⟨_, rfl, ?_⟩; replace BK155 := bk BK155 hb; replace HB := bns HB GE155 hb; (try clear hb); (try clear hb2); (try clear hk); (try clear hi)) | ((with_reducible refine gate_dst (N := 6) rfl ?_); refine be 6 87 #[.int .i64 0, .int .i64 0, .int .i64 0, .int .i64 0] ?_; intro gb161 hg w26 hbox hb; have BK161 := am hbox; have GW161 := bzs HB GE155 hg; have GE161 := bzs HB GE155 hg; have NB155_161 := nl BK155 hg; have NB161_155 := ng BK155 hg; replace BK155 := bk BK155 hb; replace HB := bns HB GE155 hb; clear hb hbox hg; have hnb27 := NB161_155.out; have hnc27 := NB155_161.out; obtain ⟨z28_0, z28_1, z28_2, z28_3, f28_0, f28_1, f28_2, f28_3⟩ := cf4 BK161) | ((with_reducible refine gate_callee (f := 48) rfl ?_); refine gl (some 29) rfl rfl Tryz.func48 rfl #[.int .i64 (wrap64 (x13_1 + 1)), .agg #[.int .i64 t157, .int .i64 t158, .int .i64 t159, .int .i64 t160], .int .u64 (IntKind.u64.wrap (a0))] rfl ?_; (with_reducible refine (inst_as.calls (wrap64 (x13_1 + 1)) t157 t158 t159 t160 (IntKind.u64.wrap (a0)) t162 t163 t164 t165 t166 t167 t168 _ A7.out).mono ?_); rintro e w29 ⟨rfl, hb⟩; refine ⟨_, rfl, ?_⟩; have n0_ := am (blk_below (g := gb155) (o := .cells #[.int .i64 x156000_1, .int .i64 x156001_1, .int .i64 x156002_1, .int .i64 x156003_1, .int .i64 x156004_1, .bool x156005_1, .bool x156006_1] 50 (0, 0)) (by (with_reducible repeat (first | refine blk_drewN ?_ _ | refine blk_drew ?_ | refine blk_alloc ?_ _)); refine blk_far ?_ NB155_161.out _; (with_reducible repeat (first | refine blk_drewN ?_ _ | refine blk_drew ?_ | refine blk_alloc ?_ _)); refine blk_far ?_ NB155_161.out _; (with_reducible repeat (first | refine blk_drewN ?_ _ | refine blk_drew ?_ | refine blk_alloc ?_ _)); refine blk_far ?_ NB155_161.out _; (with_reducible repeat (first | refine blk_drewN ?_ _ | refine blk_drew ?_ | refine blk_alloc ?_ _)); refine blk_far ?_ NB155_161.out _; (with_reducible repeat (first | refine blk_drewN ?_ _ | refine blk_drew ?_ | refine blk_alloc ?_ _)); exact BK155.out) hb); have n1_ := am (blk_below (g := gb161) (o := .cells #[.int .i64 t157, .int .i64 t158, .int .i64 t159, .int .i64 t160] 87 (0, 0)) (by (with_reducible repeat (first | refine blk_drewN ?_ _ | refine blk_drew ?_ | refine blk_alloc ?_ _)); refine blk_put (cs := #[.int .i64 t157, .int .i64 t158, .int .i64 t159, .int .i64 0]) ?_ 3 _ rfl; (with_reducible repeat (first | refine blk_drewN ?_ _ | refine blk_drew ?_ | refine blk_alloc ?_ _)); refine blk_put (cs := #[.int .i64 t157, .int .i64 t158, .int .i64 0, .int .i64 0]) ?_ 2 _ rfl; (with_reducible repeat (first | refine blk_drewN ?_ _ | refine blk_drew ?_ | refine blk_alloc ?_ _)); refine blk_put (cs := #[.int .i64 t157, .int .i64 0, .int .i64 0, .int .i64 0]) ?_ 1 _ rfl; (with_reducible repeat (first | refine blk_drewN ?_ _ | refine blk_drew ?_ | refine blk_alloc ?_ _)); refine blk_put (cs := #[.int .i64 0, .int .i64 0, .int .i64 0, .int .i64 0]) ?_ 0 _ rfl; (with_reducible repeat (first | refine blk_drewN ?_ _ | refine blk_drew ?_ | refine blk_alloc ?_ _)); exact BK161.out) hb); have n2_ := bns2 HB GE155 GE161 hb; clear BK155; clear BK161; clear HB; have BK155 := n0_; have BK161 := n1_; have HB := n2_; clear n0_ n1_ n2_; (try clear hb); (try clear hb2); (try clear hk); (try clear hi)) | ((with_reducible refine gate_dst (N := 7) rfl ?_); refine be 7 50 #[.int .i64 0, .int .i64 0, .int .i64 0, .int .i64 0, .int .i64 0, .bool false, .bool false] ?_; intro gb169 hg w30 hbox hb; have BK169 := am hbox; have GW169 := bzs2 HB GE155 GE161 hg; have GE169 := bzs2 HB GE155 GE161 hg; have NB155_169 := nl BK155 hg; have NB169_155 := ng BK155 hg; have NB161_169 := nl BK161 hg; have NB169_161 := ng BK161 hg; replace BK155 := bk BK155 hb; replace BK161 := bk BK161 hb; replace HB := bns2 HB GE155 GE161 hb; clear hb hbox hg; have hnb31 := NB169_155.out; have hnc31 := NB155_169.out; have hnb32 := NB169_161.out; have hnc32 := NB161_169.out; obtain ⟨z33_0, z33_1, z33_2, z33_3, z33_4, z33_5, z33_6, f33_0, f33_1, f33_2, f33_3, f33_4, f33_5, f33_6⟩ := cf7 BK169) | ((with_reducible refine gate_callee (f := 16) rfl ?_); refine gl (some 32) rfl rfl Tryz.func16 rfl #[.agg #[.int .i64 t162, .int .i64 t163, .int .i64 t164, .int .i64 t165, .int .i64 t166, .bool t167, .bool t168]] rfl ?_; (with_reducible refine (inst_Encode.calls t162 t163 t164 t165 t166 t167 t168 t170 t171 _ A8.out).mono ?_); rintro e w34 ⟨rfl, hb⟩; refine ⟨_, rfl, ?_⟩; have n0_ := am (blk_below (g := gb155) (o := .cells #[.int .i64 x156000_1, .int .i64 x156001_1, .int .i64 x156002_1, .int .i64 x156003_1, .int .i64 x156004_1, .bool x156005_1, .bool x156006_1] 50 (0, 0)) (by (with_reducible repeat (first | refine blk_drewN ?_ _ | refine blk_drew ?_ | refine blk_alloc ?_ _)); refine blk_far ?_ NB155_169.out _; (with_reducible repeat (first | refine blk_drewN ?_ _ | refine blk_drew ?_ | refine blk_alloc ?_ _)); refine blk_far ?_ NB155_169.out _; (with_reducible repeat (first | refine blk_drewN ?_ _ | refine blk_drew ?_ | refine blk_alloc ?_ _)); refine blk_far ?_ NB155_169.out _; (with_reducible repeat (first | refine blk_drewN ?_ _ | refine blk_drew ?_ | refine blk_alloc ?_ _)); refine blk_far ?_ NB155_169.out _; (with_reducible repeat (first | refine blk_drewN ?_ _ | refine blk_drew ?_ | refine blk_alloc ?_ _)); refine blk_far ?_ NB155_169.out _; (with_reducible repeat (first | refine blk_drewN ?_ _ | refine blk_drew ?_ | refine blk_alloc ?_ _)); refine blk_far ?_ NB155_169.out _; (with_reducible repeat (first | refine blk_drewN ?_ _ | refine blk_drew ?_ | refine blk_alloc ?_ _)); refine blk_far ?_ NB155_169.out _; (with_reducible repeat (first | refine blk_drewN ?_ _ | refine blk_drew ?_ | refine blk_alloc ?_ _)); exact BK155.out) hb); have n1_ := am (blk_below (g := gb161) (o := .cells #[.int .i64 t157, .int .i64 t158, .int .i64 t159, .int .i64 t160] 87 (0, 0)) (by (with_reducible repeat (first | refine blk_drewN ?_ _ | refine blk_drew ?_ | refine blk_alloc ?_ _)); refine blk_far ?_ NB161_169.out _; (with_reducible repeat (first | refine blk_drewN ?_ _ | refine blk_drew ?_ | refine blk_alloc ?_ _)); refine blk_far ?_ NB161_169.out _; (with_reducible repeat (first | refine blk_drewN ?_ _ | refine blk_drew ?_ | refine blk_alloc ?_ _)); refine blk_far ?_ NB161_169.out _; (with_reducible repeat (first | refine blk_drewN ?_ _ | refine blk_drew ?_ | refine blk_alloc ?_ _)); refine blk_far ?_ NB161_169.out _; (with_reducible repeat (first | refine blk_drewN ?_ _ | refine blk_drew ?_ | refine blk_alloc ?_ _)); refine blk_far ?_ NB161_169.out _; (with_reducible repeat (first | refine blk_drewN ?_ _ | refine blk_drew ?_ | refine blk_alloc ?_ _)); refine blk_far ?_ NB161_169.out _; (with_reducible repeat (first | refine blk_drewN ?_ _ | refine blk_drew ?_ | refine blk_alloc ?_ _)); refine blk_far ?_ NB161_169.out _; (with_reducible repeat (first | refine blk_drewN ?_ _ | refine blk_drew ?_ | refine blk_alloc ?_ _)); exact BK161.out) hb); have n2_ := am (blk_below (g := gb169) (o := .cells #[.int .i64 t162, .int .i64 t163, .int .i64 t164, .int .i64 t165, .int .i64 t166, .bool t167, .bool t168] 50 (0, 0)) (by (with_reducible repeat (first | refine blk_drewN ?_ _ | refine blk_drew ?_ | refine blk_alloc ?_ _)); refine blk_put (cs := #[.int .i64 t162, .int .i64 t163, .int .i64 t164, .int .i64 t165, .int .i64 t166, .bool t167, .bool false]) ?_ 6 _ rfl; (with_reducible repeat (first | refine blk_drewN ?_ _ | refine blk_drew ?_ | refine blk_alloc ?_ _)); refine blk_put (cs := #[.int .i64 t162, .int .i64 t163, .int .i64 t164, .int .i64 t165, .int .i64 t166, .bool false, .bool false]) ?_ 5 _ rfl; (with_reducible repeat (first | refine blk_drewN ?_ _ | refine blk_drew ?_ | refine blk_alloc ?_ _)); refine blk_put (cs := #[.int .i64 t162, .int .i64 t163, .int .i64 t164, .int .i64 t165, .int .i64 0, .bool false, .bool false]) ?_ 4 _ rfl; (with_reducible repeat (first | refine blk_drewN ?_ _ | refine blk_drew ?_ | refine blk_alloc ?_ _)); refine blk_put (cs := #[.int .i64 t162, .int .i64 t163, .int .i64 t164, .int .i64 0, .int .i64 0, .bool false, .bool false]) ?_ 3 _ rfl; (with_reducible repeat (first | refine blk_drewN ?_ _ | refine blk_drew ?_ | refine blk_alloc ?_ _)); refine blk_put (cs := #[.int .i64 t162, .int .i64 t163, .int .i64 0, .int .i64 0, .int .i64 0, .bool false, .bool false]) ?_ 2 _ rfl; (with_reducible repeat (first | refine blk_drewN ?_ _ | refine blk_drew ?_ | refine blk_alloc ?_ _)); refine blk_put (cs := #[.int .i64 t162, .int .i64 0, .int .i64 0, .int .i64 0, .int .i64 0, .bool false, .bool false]) ?_ 1 _ rfl; (with_reducible repeat (first | refine blk_drewN ?_ _ | refine blk_drew ?_ | refine blk_alloc ?_ _)); refine blk_put (cs := #[.int .i64 0, .int .i64 0, .int .i64 0, .int .i64 0, .int .i64 0, .bool false, .bool false]) ?_ 0 _ rfl; (with_reducible repeat (first | refine blk_drewN ?_ _ | refine blk_drew ?_ | refine blk_alloc ?_ _)); exact BK169.out) hb); have n3_ := bns3 HB GE155 GE161 GE169 hb; clear BK155; clear BK161; clear BK169; clear HB; have BK155 := n0_; have BK161 := n1_; have BK169 := n2_; have HB := n3_; clear n0_ n1_ n2_ n3_; (try clear hb); (try clear hb2); (try clear hk); (try clear hi)))
       go_roundg k1
       case measure => have := HK1.out; omega
       case rel => exact ⟨(wrap64 (x13_1 + 1)), (x156000_1), (x156001_1), (x156002_1), (x156003_1), (x156004_1), (x156005_1), (x156006_1), fr, H', ⟨by have := HK1.out; omega⟩, ⟨bu BK155⟩, ⟨bs3 HB GE155 GE161 GE169⟩⟩
     ·rw [if_neg c9] at H
      obtain ⟨c9b0, c9b1⟩ := bqf c9
      have H' := am H
      clear H
      go_wp2_with (first | ((with_reducible refine gate_callee (f := 47) rfl ?_); refine gl (some 19) rfl rfl Tryz.func47 rfl #[.int .i64 (wrap64 (x13_1 + 1)), .int .i64 (wrap64 (Go.bits .and .u32 a0 127))] rfl ?_; (with_reducible refine (inst_near.calls (wrap64 (x13_1 + 1)) (wrap64 (Go.bits .and .u32 a0 127)) true _ A4.out).mono ?_); rintro e w35 ⟨rfl, hb⟩; refine ⟨_, rfl, ?_⟩; replace BK155 := bk BK155 hb; replace HB := bns HB GE155 hb; (try clear hb); (try clear hb2); (try clear hk); (try clear hi)) | ((with_reducible refine gate_callee (f := 40) rfl ?_); refine gl (some 23) rfl rfl Tryz.func40 rfl #[.int .i64 (wrap64 (x13_1 + 1))] rfl ?_; (with_reducible refine (inst_of.calls (wrap64 (x13_1 + 1)) t157 t158 t159 t160 _ A6.out).mono ?_); rintro e w36 ⟨rfl, hb⟩; refine ⟨_, rfl, ?_⟩; replace BK155 := bk BK155 hb; replace HB := bns HB GE155 hb; (try clear hb); (try clear hb2); (try clear hk); (try clear hi)) | ((with_reducible refine gate_dst (N := 6) rfl ?_); refine be 6 87 #[.int .i64 0, .int .i64 0, .int .i64 0, .int .i64 0] ?_; intro gb161 hg w37 hbox hb; have BK161 := am hbox; have GW161 := bzs HB GE155 hg; have GE161 := bzs HB GE155 hg; have NB155_161 := nl BK155 hg; have NB161_155 := ng BK155 hg; replace BK155 := bk BK155 hb; replace HB := bns HB GE155 hb; clear hb hbox hg; have hnb38 := NB161_155.out; have hnc38 := NB155_161.out; obtain ⟨z39_0, z39_1, z39_2, z39_3, f39_0, f39_1, f39_2, f39_3⟩ := cf4 BK161) | ((with_reducible refine gate_callee (f := 48) rfl ?_); refine gl (some 29) rfl rfl Tryz.func48 rfl #[.int .i64 (wrap64 (x13_1 + 1)), .agg #[.int .i64 t157, .int .i64 t158, .int .i64 t159, .int .i64 t160], .int .u64 (IntKind.u64.wrap (a0))] rfl ?_; (with_reducible refine (inst_as.calls (wrap64 (x13_1 + 1)) t157 t158 t159 t160 (IntKind.u64.wrap (a0)) t162 t163 t164 t165 t166 t167 t168 _ A7.out).mono ?_); rintro e w40 ⟨rfl, hb⟩; refine ⟨_, rfl, ?_⟩; have n0_ := am (blk_below (g := gb155) (o := .cells #[.int .i64 x156000_1, .int .i64 x156001_1, .int .i64 x156002_1, .int .i64 x156003_1, .int .i64 x156004_1, .bool x156005_1, .bool x156006_1] 50 (0, 0)) (by (with_reducible repeat (first | refine blk_drewN ?_ _ | refine blk_drew ?_ | refine blk_alloc ?_ _)); refine blk_far ?_ NB155_161.out _; (with_reducible repeat (first | refine blk_drewN ?_ _ | refine blk_drew ?_ | refine blk_alloc ?_ _)); refine blk_far ?_ NB155_161.out _; (with_reducible repeat (first | refine blk_drewN ?_ _ | refine blk_drew ?_ | refine blk_alloc ?_ _)); refine blk_far ?_ NB155_161.out _; (with_reducible repeat (first | refine blk_drewN ?_ _ | refine blk_drew ?_ | refine blk_alloc ?_ _)); refine blk_far ?_ NB155_161.out _; (with_reducible repeat (first | refine blk_drewN ?_ _ | refine blk_drew ?_ | refine blk_alloc ?_ _)); exact BK155.out) hb); have n1_ := am (blk_below (g := gb161) (o := .cells #[.int .i64 t157, .int .i64 t158, .int .i64 t159, .int .i64 t160] 87 (0, 0)) (by (with_reducible repeat (first | refine blk_drewN ?_ _ | refine blk_drew ?_ | refine blk_alloc ?_ _)); refine blk_put (cs := #[.int .i64 t157, .int .i64 t158, .int .i64 t159, .int .i64 0]) ?_ 3 _ rfl; (with_reducible repeat (first | refine blk_drewN ?_ _ | refine blk_drew ?_ | refine blk_alloc ?_ _)); refine blk_put (cs := #[.int .i64 t157, .int .i64 t158, .int .i64 0, .int .i64 0]) ?_ 2 _ rfl; (with_reducible repeat (first | refine blk_drewN ?_ _ | refine blk_drew ?_ | refine blk_alloc ?_ _)); refine blk_put (cs := #[.int .i64 t157, .int .i64 0, .int .i64 0, .int .i64 0]) ?_ 1 _ rfl; (with_reducible repeat (first | refine blk_drewN ?_ _ | refine blk_drew ?_ | refine blk_alloc ?_ _)); refine blk_put (cs := #[.int .i64 0, .int .i64 0, .int .i64 0, .int .i64 0]) ?_ 0 _ rfl; (with_reducible repeat (first | refine blk_drewN ?_ _ | refine blk_drew ?_ | refine blk_alloc ?_ _)); exact BK161.out) hb); have n2_ := bns2 HB GE155 GE161 hb; clear BK155; clear BK161; clear HB; have BK155 := n0_; have BK161 := n1_; have HB := n2_; clear n0_ n1_ n2_; (try clear hb); (try clear hb2); (try clear hk); (try clear hi)) | ((with_reducible refine gate_dst (N := 7) rfl ?_); refine be 7 50 #[.int .i64 0, .int .i64 0, .int .i64 0, .int .i64 0, .int .i64 0, .bool false, .bool false] ?_; intro gb169 hg w41 hbox hb; have BK169 := am hbox; have GW169 := bzs2 HB GE155 GE161 hg; have GE169 := bzs2 HB GE155 GE161 hg; have NB155_169 := nl BK155 hg; have NB169_155 := ng BK155 hg; have NB161_169 := nl BK161 hg; have NB169_161 := ng BK161 hg; replace BK155 := bk BK155 hb; replace BK161 := bk BK161 hb; replace HB := bns2 HB GE155 GE161 hb; clear hb hbox hg; have hnb42 := NB169_155.out; have hnc42 := NB155_169.out; have hnb43 := NB169_161.out; have hnc43 := NB161_169.out; obtain ⟨z44_0, z44_1, z44_2, z44_3, z44_4, z44_5, z44_6, f44_0, f44_1, f44_2, f44_3, f44_4, f44_5, f44_6⟩ := cf7 BK169) | ((with_reducible refine gate_callee (f := 16) rfl ?_); refine gl (some 32) rfl rfl Tryz.func16 rfl #[.agg #[.int .i64 t162, .int .i64 t163, .int .i64 t164, .int .i64 t165, .int .i64 t166, .bool t167, .bool t168]] rfl ?_; (with_reducible refine (inst_Encode.calls t162 t163 t164 t165 t166 t167 t168 t170 t171 _ A8.out).mono ?_); rintro e w45 ⟨rfl, hb⟩; refine ⟨_, rfl, ?_⟩; have n0_ := am (blk_below (g := gb155) (o := .cells #[.int .i64 x156000_1, .int .i64 x156001_1, .int .i64 x156002_1, .int .i64 x156003_1, .int .i64 x156004_1, .bool x156005_1, .bool x156006_1] 50 (0, 0)) (by (with_reducible repeat (first | refine blk_drewN ?_ _ | refine blk_drew ?_ | refine blk_alloc ?_ _)); refine blk_far ?_ NB155_169.out _; (with_reducible repeat (first | refine blk_drewN ?_ _ | refine blk_drew ?_ | refine blk_alloc ?_ _)); refine blk_far ?_ NB155_169.out _; (with_reducible repeat (first | refine blk_drewN ?_ _ | refine blk_drew ?_ | refine blk_alloc ?_ _)); refine blk_far ?_ NB155_169.out _; (with_reducible repeat (first | refine blk_drewN ?_ _ | refine blk_drew ?_ | refine blk_alloc ?_ _)); refine blk_far ?_ NB155_169.out _; (with_reducible repeat (first | refine blk_drewN ?_ _ | refine blk_drew ?_ | refine blk_alloc ?_ _)); refine blk_far ?_ NB155_169.out _; (with_reducible repeat (first | refine blk_drewN ?_ _ | refine blk_drew ?_ | refine blk_alloc ?_ _)); refine blk_far ?_ NB155_169.out _; (with_reducible repeat (first | refine blk_drewN ?_ _ | refine blk_drew ?_ | refine blk_alloc ?_ _)); refine blk_far ?_ NB155_169.out _; (with_reducible repeat (first | refine blk_drewN ?_ _ | refine blk_drew ?_ | refine blk_alloc ?_ _)); exact BK155.out) hb); have n1_ := am (blk_below (g := gb161) (o := .cells #[.int .i64 t157, .int .i64 t158, .int .i64 t159, .int .i64 t160] 87 (0, 0)) (by (with_reducible repeat (first | refine blk_drewN ?_ _ | refine blk_drew ?_ | refine blk_alloc ?_ _)); refine blk_far ?_ NB161_169.out _; (with_reducible repeat (first | refine blk_drewN ?_ _ | refine blk_drew ?_ | refine blk_alloc ?_ _)); refine blk_far ?_ NB161_169.out _; (with_reducible repeat (first | refine blk_drewN ?_ _ | refine blk_drew ?_ | refine blk_alloc ?_ _)); refine blk_far ?_ NB161_169.out _; (with_reducible repeat (first | refine blk_drewN ?_ _ | refine blk_drew ?_ | refine blk_alloc ?_ _)); refine blk_far ?_ NB161_169.out _; (with_reducible repeat (first | refine blk_drewN ?_ _ | refine blk_drew ?_ | refine blk_alloc ?_ _)); refine blk_far ?_ NB161_169.out _; (with_reducible repeat (first | refine blk_drewN ?_ _ | refine blk_drew ?_ | refine blk_alloc ?_ _)); refine blk_far ?_ NB161_169.out _; (with_reducible repeat (first | refine blk_drewN ?_ _ | refine blk_drew ?_ | refine blk_alloc ?_ _)); refine blk_far ?_ NB161_169.out _; (with_reducible repeat (first | refine blk_drewN ?_ _ | refine blk_drew ?_ | refine blk_alloc ?_ _)); exact BK161.out) hb); have n2_ := am (blk_below (g := gb169) (o := .cells #[.int .i64 t162, .int .i64 t163, .int .i64 t164, .int .i64 t165, .int .i64 t166, .bool t167, .bool t168] 50 (0, 0)) (by (with_reducible repeat (first | refine blk_drewN ?_ _ | refine blk_drew ?_ | refine blk_alloc ?_ _)); refine blk_put (cs := #[.int .i64 t162, .int .i64 t163, .int .i64 t164, .int .i64 t165, .int .i64 t166, .bool t167, .bool false]) ?_ 6 _ rfl; (with_reducible repeat (first | refine blk_drewN ?_ _ | refine blk_drew ?_ | refine blk_alloc ?_ _)); refine blk_put (cs := #[.int .i64 t162, .int .i64 t163, .int .i64 t164, .int .i64 t165, .int .i64 t166, .bool false, .bool false]) ?_ 5 _ rfl; (with_reducible repeat (first | refine blk_drewN ?_ _ | refine blk_drew ?_ | refine blk_alloc ?_ _)); refine blk_put (cs := #[.int .i64 t162, .int .i64 t163, .int .i64 t164, .int .i64 t165, .int .i64 0, .bool false, .bool false]) ?_ 4 _ rfl; (with_reducible repeat (first | refine blk_drewN ?_ _ | refine blk_drew ?_ | refine blk_alloc ?_ _)); refine blk_put (cs := #[.int .i64 t162, .int .i64 t163, .int .i64 t164, .int .i64 0, .int .i64 0, .bool false, .bool false]) ?_ 3 _ rfl; (with_reducible repeat (first | refine blk_drewN ?_ _ | refine blk_drew ?_ | refine blk_alloc ?_ _)); refine blk_put (cs := #[.int .i64 t162, .int .i64 t163, .int .i64 0, .int .i64 0, .int .i64 0, .bool false, .bool false]) ?_ 2 _ rfl; (with_reducible repeat (first | refine blk_drewN ?_ _ | refine blk_drew ?_ | refine blk_alloc ?_ _)); refine blk_put (cs := #[.int .i64 t162, .int .i64 0, .int .i64 0, .int .i64 0, .int .i64 0, .bool false, .bool false]) ?_ 1 _ rfl; (with_reducible repeat (first | refine blk_drewN ?_ _ | refine blk_drew ?_ | refine blk_alloc ?_ _)); refine blk_put (cs := #[.int .i64 0, .int .i64 0, .int .i64 0, .int .i64 0, .int .i64 0, .bool false, .bool false]) ?_ 0 _ rfl; (with_reducible repeat (first | refine blk_drewN ?_ _ | refine blk_drew ?_ | refine blk_alloc ?_ _)); exact BK169.out) hb); have n3_ := bns3 HB GE155 GE161 GE169 hb; clear BK155; clear BK161; clear BK169; clear HB; have BK155 := n0_; have BK161 := n1_; have BK169 := n2_; have HB := n3_; clear n0_ n1_ n2_ n3_; (try clear hb); (try clear hb2); (try clear hk); (try clear hi)))
      go_roundg k1
      case measure => have := HK1.out; omega
      case rel => exact ⟨(wrap64 (x13_1 + 1)), (x156000_1), (x156001_1), (x156002_1), (x156003_1), (x156004_1), (x156005_1), (x156006_1), fr, H', ⟨by have := HK1.out; omega⟩, ⟨bu BK155⟩, ⟨bs3 HB GE155 GE161 GE169⟩⟩
    ·replace c5 := Bool.eq_false_iff.mpr c5
     subst c5
     rw [if_neg ff] at H
     have H' := am H
     clear H
     go_wp2_with (first | ((with_reducible refine gate_callee (f := 47) rfl ?_); refine gl (some 19) rfl rfl Tryz.func47 rfl #[.int .i64 (wrap64 (x13_1 + 1)), .int .i64 (wrap64 (Go.bits .and .u32 a0 127))] rfl ?_; (with_reducible refine (inst_near.calls (wrap64 (x13_1 + 1)) (wrap64 (Go.bits .and .u32 a0 127)) false _ A4.out).mono ?_); rintro e w46 ⟨rfl, hb⟩; refine ⟨_, rfl, ?_⟩; replace BK155 := bk BK155 hb; replace HB := bns HB GE155 hb; (try clear hb); (try clear hb2); (try clear hk); (try clear hi)))
     go_roundg k1
     case measure => have := HK1.out; omega
     case rel => exact ⟨(wrap64 (x13_1 + 1)), (x156000_1), (x156001_1), (x156002_1), (x156003_1), (x156004_1), (x156005_1), (x156006_1), fr, H', ⟨by have := HK1.out; omega⟩, ⟨bu BK155⟩, ⟨bs HB GE155⟩⟩
   ·rw [if_neg c3] at H
    have c3b0 : decide (x13_1 < 87) = false := decide_eq_false c3
    clear c3
    simp only [Option.some.injEq, Prod.mk.injEq] at H
    obtain ⟨rfl, rfl, rfl, rfl, rfl, rfl, rfl, rfl⟩ := H
    obtain ⟨z47_0, z47_1, z47_2, z47_3, z47_4, z47_5, z47_6, f47_0, f47_1, f47_2, f47_3, f47_4, f47_5, f47_6⟩ := cf7 BK155
    go_wp2
    refine bodyPost_ret (results_ct rfl _ _ gb155 50 #[.int .i64 0, .int .i64 0, .int .i64 0, .int .i64 0, .int .i64 0, .bool false, .bool false] (0, 0) _ rfl (by (with_reducible repeat (first | refine blk_drewN ?_ _ | refine blk_drew ?_ | refine blk_alloc ?_ _)); refine blk_put (cs := #[.int .i64 0, .int .i64 0, .int .i64 0, .int .i64 0, .int .i64 0, .bool false, .bool x156006_1]) ?_ 6 _ rfl; (with_reducible repeat (first | refine blk_drewN ?_ _ | refine blk_drew ?_ | refine blk_alloc ?_ _)); refine blk_put (cs := #[.int .i64 0, .int .i64 0, .int .i64 0, .int .i64 0, .int .i64 0, .bool x156005_1, .bool x156006_1]) ?_ 5 _ rfl; (with_reducible repeat (first | refine blk_drewN ?_ _ | refine blk_drew ?_ | refine blk_alloc ?_ _)); refine blk_put (cs := #[.int .i64 0, .int .i64 0, .int .i64 0, .int .i64 0, .int .i64 x156004_1, .bool x156005_1, .bool x156006_1]) ?_ 4 _ rfl; (with_reducible repeat (first | refine blk_drewN ?_ _ | refine blk_drew ?_ | refine blk_alloc ?_ _)); refine blk_put (cs := #[.int .i64 0, .int .i64 0, .int .i64 0, .int .i64 x156003_1, .int .i64 x156004_1, .bool x156005_1, .bool x156006_1]) ?_ 3 _ rfl; (with_reducible repeat (first | refine blk_drewN ?_ _ | refine blk_drew ?_ | refine blk_alloc ?_ _)); refine blk_put (cs := #[.int .i64 0, .int .i64 0, .int .i64 x156002_1, .int .i64 x156003_1, .int .i64 x156004_1, .bool x156005_1, .bool x156006_1]) ?_ 2 _ rfl; (with_reducible repeat (first | refine blk_drewN ?_ _ | refine blk_drew ?_ | refine blk_alloc ?_ _)); refine blk_put (cs := #[.int .i64 0, .int .i64 x156001_1, .int .i64 x156002_1, .int .i64 x156003_1, .int .i64 x156004_1, .bool x156005_1, .bool x156006_1]) ?_ 1 _ rfl; (with_reducible repeat (first | refine blk_drewN ?_ _ | refine blk_drew ?_ | refine blk_alloc ?_ _)); refine blk_put (cs := #[.int .i64 x156000_1, .int .i64 x156001_1, .int .i64 x156002_1, .int .i64 x156003_1, .int .i64 x156004_1, .bool x156005_1, .bool x156006_1]) ?_ 0 _ rfl; (with_reducible repeat (first | refine blk_drewN ?_ _ | refine blk_drew ?_ | refine blk_alloc ?_ _)); exact BK155.out) Tryz.underlying50 rfl (by kernel_rfl)) rfl ?_
    exact ⟨fe, bs HB GE155⟩
theorem and_u32 (x : Int) (h : 0 ≤ x ∧ x < 4294967296) : Go.bits .and .u32 x 127 = x % 128 := by
 obtain ⟨n, rfl⟩ := Int.eq_ofNat_of_zero_le h.1
 have h2 : n < 2 ^ 32 := by omega
 have e := (bits_nat .u32 32 (by decide) (fun n h0 h1 => by rw [IntKind.wrap_u32]; omega) n 127 h2 (by decide)).1
 rw [show ((127 : Nat) : Int) = 127 from rfl] at e
 rw [e, show (127 : Nat) = 2 ^ 7 - 1 from rfl, Nat.and_two_pow_sub_one_eq_mod]
 omega
theorem inst_Decode0.run (w : Int) (hw : 0 ≤ w ∧ w < 4294967296) : ∀ (n : Nat) (i : Int) (k : Nat), i + n = 87 → 0 ≤ i → n < k → inst_Decode0.l0 k w (w % 128) i = some (decTup w (decFrom w n (i + 1)))
 | 0, op, k, h, h1, hk => by
  obtain ⟨k, rfl⟩ : ∃ m, k = m + 1 := ⟨k - 1, by omega⟩
  simp only [inst_Decode0.l0, decFrom]
  rw [if_neg (by omega)]; rfl
 | n + 1, i, k, h, h1, hk => by
  obtain ⟨k, rfl⟩ : ∃ m, k = m + 1 := ⟨k - 1, by omega⟩
  have ih := inst_Decode0.run w hw n (i + 1) k (by omega) (by omega) (by omega)
  have ew : wrap64 (i + 1) = i + 1 := by unfold wrap64; omega
  have uw : IntKind.u64.wrap w = w := by rw [u64w]; omega
  have hU : U64 w := by unfold U64; omega
  simp only [inst_Decode0.l0, decFrom, ew, uw]
  rw [if_pos (by omega)]
  generalize hop : i + 1 = op at *
  simp only [inst_near.f, Option.bind_some, inst_of.f, inst_as.f, if_pos hU, inst_Encode.f, if_pos (decImm_I64 _ _)]
  cases hn : nearOf op (w % 128)
  ·have hh : hit op w = false := by
    cases e : hit op w
    ·rfl
    ·rw [hit_near e] at hn; simp at hn
   rw [if_neg (by simp), ih, hh]; rfl
  ·rw [if_pos rfl]
   change (if goodOf op (decRd op w) (decRs1 op w) (decRs2 op w) (decImm (formOf op) w) (decAq op w) (decRl op w) = true then _ else _ : Option (Int × Int)).bind _ = _
   cases hg : goodOf op (decRd op w) (decRs1 op w) (decRs2 op w) (decImm (formOf op) w) (decAq op w) (decRl op w)
   ·have hh : hit op w = false := by unfold hit; rw [hg]; rfl
    simp only [hh, Bool.false_eq_true, if_false, Option.bind_some, ih]
    rfl
   ·simp only [if_true, Option.bind_some]
    by_cases e : encOf op (decRd op w) (decRs1 op w) (decRs2 op w) (decImm (formOf op) w) (decAq op w) (decRl op w) = w
    ·have hh : hit op w = true := by unfold hit; rw [hg, e]; simp
     rw [if_pos hh]
     refine Eq.trans (if_pos e) ?_
     unfold decTup; rw [if_neg (show ¬ op = 0 by omega)]; rfl
    ·have hh : hit op w = false := by unfold hit; rw [hg, beq_eq_false_iff_ne.2 e]; rfl
     refine Eq.trans (if_neg e) ?_
     rw [ih, hh]; rfl
def inst_Decode.f (a0 : Int) : Option (Int × Int × Int × Int × Int × Bool × Bool × Int) := if 0 ≤ a0 ∧ a0 < 4294967296 then some (decTup a0 (decOp a0)) else none
theorem inst_Decode.spec (a0 r1 r2 r3 r4 r5 : Int) (r6 r7 : Bool) (r8 : Int) (h : inst_Decode.f a0 = some (r1, r2, r3, r4, r5, r6, r7, r8)) : ∃ k, inst_Decode0.f k a0 = some (r1, r2, r3, r4, r5, r6, r7, r8) := by
 unfold inst_Decode.f at h
 split at h
 ·rename_i hc
  refine ⟨88, ?_⟩
  rw [← h]
  unfold inst_Decode0.f
  rw [and_u32 a0 hc, show wrap64 (a0 % 128) = a0 % 128 by unfold wrap64; omega]
  exact inst_Decode0.run a0 hc 87 0 88 (by omega) (by omega) (by omega)
 ·simp at h
theorem inst_Decode.calls (a0 : Int) (r1 : Int) (r2 : Int) (r3 : Int) (r4 : Int) (r5 : Int) (r6 : Bool) (r7 : Bool) (r8 : Int) (w : World) (h : inst_Decode.f a0 = some (r1, r2, r3, r4, r5, r6, r7, r8)) :
  Calls Tryz.prog 24 #[.int .u32 a0] w fun e w' => e = .returned (.tuple #[.agg #[.int .i64 r1, .int .i64 r2, .int .i64 r3, .int .i64 r4, .int .i64 r5, .bool r6, .bool r7], .int .i64 r8]) ∧ Below w.heap.size w w' := by
 obtain ⟨k, hk⟩ := inst_Decode.spec a0 r1 r2 r3 r4 r5 r6 r7 r8 h
 exact inst_Decode0.calls k a0 r1 r2 r3 r4 r5 r6 r7 r8 w hk
-- NOT PRINTED: function 25 (hart_Step_1)
mutual
def inst_Size0.j0 : Nat → Int → Bool → Option (Int)
 | 0, _, _ => none
 | k + 1, x0, x3 => if x3 = true then (if 0 ≤ (wrap64 (x0 - 11)) then (some (shl .i64 1 (wrap64 (x0 - 11)))) else (none)) else (if x0 ≥ 15 then (inst_Size0.j1 k x0 (decide (x0 ≤ 17))) else (inst_Size0.j1 k x0 false))
def inst_Size0.j1 : Nat → Int → Bool → Option (Int)
 | 0, _, _ => none
 | k + 1, x0, x13 => if x13 = true then (if 0 ≤ (wrap64 (x0 - 15)) then (some (shl .i64 1 (wrap64 (x0 - 15)))) else (none)) else (if x0 ≥ 18 then (inst_Size0.j2 k x0 (decide (x0 ≤ 21))) else (inst_Size0.j2 k x0 false))
def inst_Size0.j2 : Nat → Int → Bool → Option (Int)
 | 0, _, _ => none
 | k + 1, x0, x23 => if x23 = true then (if 0 ≤ (wrap64 (x0 - 18)) then (some (shl .i64 1 (wrap64 (x0 - 18)))) else (none)) else ((inst_Atomic.f x0).bind fun t172 => (if t172 = true then (inst_Size0.j3 k x0 (decide (x0 < 77))) else (inst_Size0.j3 k x0 false)))
def inst_Size0.j3 : Nat → Int → Bool → Option (Int)
 | 0, _, _ => none
 | k + 1, x0, x33 => if x33 = true then (some 4) else ((inst_Atomic.f x0).bind fun t173 => (if t173 = true then (some 8) else (some 0)))
end
def inst_Size0.f (k : Nat) (a0 : Int) : Option (Int) := if a0 ≥ 11 then (inst_Size0.j0 k a0 (decide (a0 ≤ 14))) else (inst_Size0.j0 k a0 false)
theorem inst_Size0.mono_l : ∀ k, (∀ y0 y1, LeO (inst_Size0.j0 k y0 y1) (inst_Size0.j0 (k + 1) y0 y1)) ∧ (∀ y0 y1, LeO (inst_Size0.j1 k y0 y1) (inst_Size0.j1 (k + 1) y0 y1)) ∧ (∀ y0 y1, LeO (inst_Size0.j2 k y0 y1) (inst_Size0.j2 (k + 1) y0 y1)) ∧ (∀ y0 y1, LeO (inst_Size0.j3 k y0 y1) (inst_Size0.j3 (k + 1) y0 y1))
 | 0 => ⟨fun _ _ r h => by simp [inst_Size0.j0] at h, fun _ _ r h => by simp [inst_Size0.j1] at h, fun _ _ r h => by simp [inst_Size0.j2] at h, fun _ _ r h => by simp [inst_Size0.j3] at h⟩
 | k + 1 => by
  obtain ⟨ih0, ih1, ih2, ih3⟩ := inst_Size0.mono_l k
  refine ⟨?_, ?_, ?_, ?_⟩
  ·intro y0 y1
   unfold inst_Size0.j0
   exact leo
  ·intro y0 y1
   unfold inst_Size0.j1
   exact leo
  ·intro y0 y1
   unfold inst_Size0.j2
   exact leo
  ·intro y0 y1
   unfold inst_Size0.j3
   exact leo
theorem inst_Size0.mono : ∀ a0 k, LeO (inst_Size0.f k a0) (inst_Size0.f (k + 1) a0) := by
 intro a0 k
 obtain ⟨ih0, ih1, ih2, ih3⟩ := inst_Size0.mono_l k
 unfold inst_Size0.f
 exact leo
set_option maxHeartbeats 8000000 in
set_option maxRecDepth 100000 in
theorem inst_Size0.calls (k : Nat) (a0 : Int) (r : Int) (w : World) (h : inst_Size0.f k a0 = some r) :
  Calls Tryz.prog 26 #[.int .i64 a0] w fun e w' => e = .returned (.int .i64 r) ∧ Drawn0 w w' := by
 have H := h
 clear h
 unfold inst_Size0.f at H
 have HC2 := am H
 clear H
 go_enter Tryz.func26, Tryz.ntmps26
 go_upto_region 1 with (fail)
 go_cut [3] (fun v3 wc => ∃ (kq : Nat) (x3_1 : Bool), v3 = .bool x3_1 ∧ Aside0 (inst_Size0.j0 kq a0 x3_1 = some r) ∧ Aside0 (kq ≤ k) ∧ Drawn0 w wc)
 case first =>
  have H := HC2.out
  clear HC2
  by_cases c3 : a0 ≥ 11
  ·rw [if_pos c3] at H
   have c3b0 : decide (11 ≤ a0) = true := decide_eq_true c3
   clear c3
   (first | rw [c3b0] | (simp only [i64_w, i32_w]; rw [c3b0]) | skip)
   have H' := am H
   clear H
   go_wp2
   go_meet
   case rel => exact ⟨_, (decide (a0 ≤ 14)), fr, H', ⟨om⟩, dd⟩
  ·rw [if_neg c3] at H
   have c3b0 : decide (11 ≤ a0) = false := decide_eq_false c3
   clear c3
   (first | rw [c3b0] | (simp only [i64_w, i32_w]; rw [c3b0]) | skip)
   have H' := am H
   clear H
   go_wp2
   go_meet
   case rel => exact ⟨_, (false), fr, H', ⟨om⟩, dd⟩
 case rest =>
  clear HC2
  try clear c2
  try clear p2
  try clear c3
  try clear c3b0
  obtain ⟨kq, x3_1, rfl, HA, HJ1, ⟨mc1, rfl⟩⟩ := hcut
  cases kq with
  | zero => exact absurd HA.out (by simp [inst_Size0.j0])
  | succ kj1 =>
   have H := HA.out
   clear HA
   simp only [inst_Size0.j0] at H
   by_cases c4 : x3_1 = true
   ·subst c4
    rw [if_pos rfl] at H
    obtain ⟨ji5, hji5⟩ : ∃ j_ : Int, (wrap64 (a0 - 11)) = j_ := ⟨_, rfl⟩
    replace H : (if 0 ≤ (ji5) then (some (shl .i64 1 (ji5))) else (none)) = some r := by first | (rw [hji5] at H; exact H) | (simp only [hji5] at H ⊢; exact H)
    have hji5w : (IntKind.i64.wrap (a0 - 11)) = ji5 := (i64_w _).trans hji5
    by_cases c6 : 0 ≤ (ji5)
    ·rw [if_pos c6] at H
     have c6b0 := eq_true c6
     have c6b1 : decide (0 ≤ (ji5)) = true := decide_eq_true c6
     clear c6
     obtain ⟨ji7, hji7⟩ : ∃ j_ : Int, (shl .i64 1 (ji5)) = j_ := ⟨_, rfl⟩
     replace H : (some ji7) = some r := by first | (rw [hji7] at H; exact H) | (simp only [hji7] at H ⊢; exact H)
     have hji7_ : (IntKind.i64.wrap (1 * 2 ^ min (ji5).toNat 64)) = ji7 := hji7
     have hji7z : (ji5) ≤ 64 → (IntKind.i64.wrap (1 * 2 ^ (ji5).toNat)) = ji7 := shl_small hji7
     have hji7u : (IntKind.i64.wrap (2 ^ min (ji5).toNat 64)) = ji7 := by have h_ := hji7_; rw [Int.one_mul] at h_; exact h_
     have hji7v : (ji5) ≤ 64 → (IntKind.i64.wrap (2 ^ (ji5).toNat)) = ji7 := fun hle_ => by have h_ := hji7z hle_; rw [Int.one_mul] at h_; exact h_
     have hji7y : (wrap64 (1 * 2 ^ min (ji5).toNat 64)) = ji7 := (i64_w _).symm.trans hji7_
     have hji7x : (ji5) ≤ 64 → (wrap64 (1 * 2 ^ (ji5).toNat)) = ji7 := fun h_ => (i64_w _).symm.trans (hji7z h_)
     obtain rfl := Option.some.inj H
     go_wp2
     go_ret
     exact ⟨by first | rfl | (simp; done) | (simp only [← hji5, ← hji7] <;> (first | rfl | simp)) | (simp [*]; done), dd⟩
    ·rw [if_neg c6] at H
     exact absurd H (by simp)
   ·replace c4 := Bool.eq_false_iff.mpr c4
    subst c4
    rw [if_neg ff] at H
    have HC8 := am H
    clear H
    go_upto_region 3 with (fail)
    go_cut [13] (fun v13 wc => ∃ (kq : Nat) (x13_7 : Bool), v13 = .bool x13_7 ∧ Aside0 (inst_Size0.j1 kq a0 x13_7 = some r) ∧ Aside0 (kq ≤ kj1) ∧ Drawn0 w wc)
    case first =>
     have H := HC8.out
     clear HC8
     by_cases c9 : a0 ≥ 15
     ·rw [if_pos c9] at H
      have c9b0 : decide (15 ≤ a0) = true := decide_eq_true c9
      clear c9
      (first | rw [c9b0] | (simp only [i64_w, i32_w]; rw [c9b0]) | skip)
      have H' := am H
      clear H
      go_wp2
      go_meet
      case rel => exact ⟨_, (decide (a0 ≤ 17)), fr, H', ⟨by have := HJ1.out; first | omega | exact Nat.le_refl _⟩, dd⟩
     ·rw [if_neg c9] at H
      have c9b0 : decide (15 ≤ a0) = false := decide_eq_false c9
      clear c9
      (first | rw [c9b0] | (simp only [i64_w, i32_w]; rw [c9b0]) | skip)
      have H' := am H
      clear H
      go_wp2
      go_meet
      case rel => exact ⟨_, (false), fr, H', ⟨by have := HJ1.out; first | omega | exact Nat.le_refl _⟩, dd⟩
    case rest =>
     clear HC8
     try clear c1
     try clear c2
     try clear p2
     try clear c3
     try clear c3b0
     try clear c4
     try clear c6
     try clear c6b0
     try clear c6b1
     try clear p6
     try clear c9
     try clear c9b0
     try clear p2
     obtain ⟨kq, x13_7, rfl, HA, HJ7, ⟨mc7, rfl⟩⟩ := hcut
     cases kq with
     | zero => exact absurd HA.out (by simp [inst_Size0.j1])
     | succ kj7 =>
      have H := HA.out
      clear HA
      simp only [inst_Size0.j1] at H
      by_cases c10 : x13_7 = true
      ·subst c10
       rw [if_pos rfl] at H
       obtain ⟨ji11, hji11⟩ : ∃ j_ : Int, (wrap64 (a0 - 15)) = j_ := ⟨_, rfl⟩
       replace H : (if 0 ≤ (ji11) then (some (shl .i64 1 (ji11))) else (none)) = some r := by first | (rw [hji11] at H; exact H) | (simp only [hji11] at H ⊢; exact H)
       have hji11w : (IntKind.i64.wrap (a0 - 15)) = ji11 := (i64_w _).trans hji11
       by_cases c12 : 0 ≤ (ji11)
       ·rw [if_pos c12] at H
        have c12b0 := eq_true c12
        have c12b1 : decide (0 ≤ (ji11)) = true := decide_eq_true c12
        clear c12
        obtain ⟨ji13, hji13⟩ : ∃ j_ : Int, (shl .i64 1 (ji11)) = j_ := ⟨_, rfl⟩
        replace H : (some ji13) = some r := by first | (rw [hji13] at H; exact H) | (simp only [hji13] at H ⊢; exact H)
        have hji13_ : (IntKind.i64.wrap (1 * 2 ^ min (ji11).toNat 64)) = ji13 := hji13
        have hji13z : (ji11) ≤ 64 → (IntKind.i64.wrap (1 * 2 ^ (ji11).toNat)) = ji13 := shl_small hji13
        have hji13u : (IntKind.i64.wrap (2 ^ min (ji11).toNat 64)) = ji13 := by have h_ := hji13_; rw [Int.one_mul] at h_; exact h_
        have hji13v : (ji11) ≤ 64 → (IntKind.i64.wrap (2 ^ (ji11).toNat)) = ji13 := fun hle_ => by have h_ := hji13z hle_; rw [Int.one_mul] at h_; exact h_
        have hji13y : (wrap64 (1 * 2 ^ min (ji11).toNat 64)) = ji13 := (i64_w _).symm.trans hji13_
        have hji13x : (ji11) ≤ 64 → (wrap64 (1 * 2 ^ (ji11).toNat)) = ji13 := fun h_ => (i64_w _).symm.trans (hji13z h_)
        obtain rfl := Option.some.inj H
        go_wp2
        go_ret
        exact ⟨by first | rfl | (simp; done) | (simp only [← hji11, ← hji13] <;> (first | rfl | simp)) | (simp [*]; done), dd⟩
       ·rw [if_neg c12] at H
        exact absurd H (by simp)
      ·replace c10 := Bool.eq_false_iff.mpr c10
       subst c10
       rw [if_neg ff] at H
       have HC14 := am H
       clear H
       go_upto_region 5 with (fail)
       go_cut [23] (fun v23 wc => ∃ (kq : Nat) (x23_13 : Bool), v23 = .bool x23_13 ∧ Aside0 (inst_Size0.j2 kq a0 x23_13 = some r) ∧ Aside0 (kq ≤ kj7) ∧ Drawn0 w wc)
       case first =>
        have H := HC14.out
        clear HC14
        by_cases c15 : a0 ≥ 18
        ·rw [if_pos c15] at H
         have c15b0 : decide (18 ≤ a0) = true := decide_eq_true c15
         clear c15
         (first | rw [c15b0] | (simp only [i64_w, i32_w]; rw [c15b0]) | skip)
         have H' := am H
         clear H
         go_wp2
         go_meet
         case rel => exact ⟨_, (decide (a0 ≤ 21)), fr, H', ⟨by have := HJ1.out; have := HJ7.out; first | omega | exact Nat.le_refl _⟩, dd⟩
        ·rw [if_neg c15] at H
         have c15b0 : decide (18 ≤ a0) = false := decide_eq_false c15
         clear c15
         (first | rw [c15b0] | (simp only [i64_w, i32_w]; rw [c15b0]) | skip)
         have H' := am H
         clear H
         go_wp2
         go_meet
         case rel => exact ⟨_, (false), fr, H', ⟨by have := HJ1.out; have := HJ7.out; first | omega | exact Nat.le_refl _⟩, dd⟩
       case rest =>
        clear HC14
        try clear c1
        try clear c2
        try clear p2
        try clear c3
        try clear c3b0
        try clear c4
        try clear c6
        try clear c6b0
        try clear c6b1
        try clear p6
        try clear c7
        try clear c9
        try clear c9b0
        try clear c10
        try clear c12
        try clear c12b0
        try clear c12b1
        try clear c15
        try clear c15b0
        try clear p2
        try clear p6
        obtain ⟨kq, x23_13, rfl, HA, HJ13, ⟨mc13, rfl⟩⟩ := hcut
        cases kq with
        | zero => exact absurd HA.out (by simp [inst_Size0.j2])
        | succ kj13 =>
         have H := HA.out
         clear HA
         simp only [inst_Size0.j2] at H
         by_cases c16 : x23_13 = true
         ·subst c16
          rw [if_pos rfl] at H
          obtain ⟨ji17, hji17⟩ : ∃ j_ : Int, (wrap64 (a0 - 18)) = j_ := ⟨_, rfl⟩
          replace H : (if 0 ≤ (ji17) then (some (shl .i64 1 (ji17))) else (none)) = some r := by first | (rw [hji17] at H; exact H) | (simp only [hji17] at H ⊢; exact H)
          have hji17w : (IntKind.i64.wrap (a0 - 18)) = ji17 := (i64_w _).trans hji17
          by_cases c18 : 0 ≤ (ji17)
          ·rw [if_pos c18] at H
           have c18b0 := eq_true c18
           have c18b1 : decide (0 ≤ (ji17)) = true := decide_eq_true c18
           clear c18
           obtain ⟨ji19, hji19⟩ : ∃ j_ : Int, (shl .i64 1 (ji17)) = j_ := ⟨_, rfl⟩
           replace H : (some ji19) = some r := by first | (rw [hji19] at H; exact H) | (simp only [hji19] at H ⊢; exact H)
           have hji19_ : (IntKind.i64.wrap (1 * 2 ^ min (ji17).toNat 64)) = ji19 := hji19
           have hji19z : (ji17) ≤ 64 → (IntKind.i64.wrap (1 * 2 ^ (ji17).toNat)) = ji19 := shl_small hji19
           have hji19u : (IntKind.i64.wrap (2 ^ min (ji17).toNat 64)) = ji19 := by have h_ := hji19_; rw [Int.one_mul] at h_; exact h_
           have hji19v : (ji17) ≤ 64 → (IntKind.i64.wrap (2 ^ (ji17).toNat)) = ji19 := fun hle_ => by have h_ := hji19z hle_; rw [Int.one_mul] at h_; exact h_
           have hji19y : (wrap64 (1 * 2 ^ min (ji17).toNat 64)) = ji19 := (i64_w _).symm.trans hji19_
           have hji19x : (ji17) ≤ 64 → (wrap64 (1 * 2 ^ (ji17).toNat)) = ji19 := fun h_ => (i64_w _).symm.trans (hji19z h_)
           obtain rfl := Option.some.inj H
           go_wp2
           go_ret
           exact ⟨by first | rfl | (simp; done) | (simp only [← hji17, ← hji19] <;> (first | rfl | simp)) | (simp [*]; done), dd⟩
          ·rw [if_neg c18] at H
           exact absurd H (by simp)
         ·replace c16 := Bool.eq_false_iff.mpr c16
          subst c16
          rw [if_neg ff] at H
          have HC20 := am H
          clear H
          go_upto_region 7 with (fail)
          go_cut [33] (fun v33 wc => ∃ (kq : Nat) (x33_19 : Bool), v33 = .bool x33_19 ∧ Aside0 (inst_Size0.j3 kq a0 x33_19 = some r) ∧ Aside0 (kq ≤ kj13) ∧ Drawn0 w wc)
          case first =>
           have H := HC20.out
           clear HC20
           obtain ⟨t172, A21, H⟩ := bam H
           try dsimp only at H
           by_cases c22 : t172 = true
           ·subst c22
            rw [if_pos rfl] at H
            have H' := am H
            clear H
            go_wp2_with (first | ((with_reducible refine gate_callee (f := 49) rfl ?_); refine gl (some 35) rfl rfl Tryz.func49 rfl #[.int .i64 a0] rfl ?_; (with_reducible refine (inst_Atomic.calls a0 true _ A21.out).mono ?_); rintro e w' ⟨rfl, ⟨nd, rfl⟩⟩; refine ⟨_, rfl, ?_⟩))
            go_meet
            case rel => exact ⟨_, (decide (a0 < 77)), fr, H', ⟨by have := HJ1.out; have := HJ7.out; have := HJ13.out; first | omega | exact Nat.le_refl _⟩, dd⟩
           ·replace c22 := Bool.eq_false_iff.mpr c22
            subst c22
            rw [if_neg ff] at H
            have H' := am H
            clear H
            go_wp2_with (first | ((with_reducible refine gate_callee (f := 49) rfl ?_); refine gl (some 35) rfl rfl Tryz.func49 rfl #[.int .i64 a0] rfl ?_; (with_reducible refine (inst_Atomic.calls a0 false _ A21.out).mono ?_); rintro e w' ⟨rfl, ⟨nd, rfl⟩⟩; refine ⟨_, rfl, ?_⟩))
            go_meet
            case rel => exact ⟨_, (false), fr, H', ⟨by have := HJ1.out; have := HJ7.out; have := HJ13.out; first | omega | exact Nat.le_refl _⟩, dd⟩
          case rest =>
           clear HC20
           try clear c1
           try clear c2
           try clear p2
           try clear c3
           try clear c3b0
           try clear c4
           try clear c6
           try clear c6b0
           try clear c6b1
           try clear p6
           try clear c7
           try clear c9
           try clear c9b0
           try clear c10
           try clear c12
           try clear c12b0
           try clear c12b1
           try clear c13
           try clear c15
           try clear c15b0
           try clear c16
           try clear c18
           try clear c18b0
           try clear c18b1
           try clear c22
           try clear p2
           try clear p6
           obtain ⟨kq, x33_19, rfl, HA, HJ19, ⟨mc19, rfl⟩⟩ := hcut
           cases kq with
           | zero => exact absurd HA.out (by simp [inst_Size0.j3])
           | succ kj19 =>
            have H := HA.out
            clear HA
            simp only [inst_Size0.j3] at H
            by_cases c23 : x33_19 = true
            ·subst c23
             rw [if_pos rfl] at H
             obtain rfl := Option.some.inj H
             go_wp2
             go_ret
             exact fd
            ·replace c23 := Bool.eq_false_iff.mpr c23
             subst c23
             rw [if_neg ff] at H
             obtain ⟨t173, A24, H⟩ := bam H
             try dsimp only at H
             by_cases c25 : t173 = true
             ·subst c25
              rw [if_pos rfl] at H
              obtain rfl := Option.some.inj H
              go_wp2_with (first | ((with_reducible refine gate_callee (f := 49) rfl ?_); refine gl (some 42) rfl rfl Tryz.func49 rfl #[.int .i64 a0] rfl ?_; (with_reducible refine (inst_Atomic.calls a0 true _ A24.out).mono ?_); rintro e w' ⟨rfl, ⟨nd, rfl⟩⟩; refine ⟨_, rfl, ?_⟩))
              go_ret
              exact fd
             ·replace c25 := Bool.eq_false_iff.mpr c25
              subst c25
              rw [if_neg ff] at H
              obtain rfl := Option.some.inj H
              go_wp2_with (first | ((with_reducible refine gate_callee (f := 49) rfl ?_); refine gl (some 42) rfl rfl Tryz.func49 rfl #[.int .i64 a0] rfl ?_; (with_reducible refine (inst_Atomic.calls a0 false _ A24.out).mono ?_); rintro e w' ⟨rfl, ⟨nd, rfl⟩⟩; refine ⟨_, rfl, ?_⟩))
              go_ret
              exact fd
def inst_Size.f (a0 : Int) : Option (Int) := some (sizeOf a0)
theorem inst_Size.spec (a0 r : Int) (h : inst_Size.f a0 = some r) : ∃ k, inst_Size0.f k a0 = some r := by
 rw [← h]; refine ⟨5, ?_⟩; unfold inst_Size.f
 by_cases hr : 11 ≤ a0 ∧ a0 ≤ 21
 ·have hc : a0 = 11 ∨ a0 = 12 ∨ a0 = 13 ∨ a0 = 14 ∨ a0 = 15 ∨ a0 = 16 ∨ a0 = 17 ∨ a0 = 18 ∨ a0 = 19 ∨ a0 = 20 ∨ a0 = 21 := by omega
  rcases hc with rfl | rfl | rfl | rfl | rfl | rfl | rfl | rfl | rfl | rfl | rfl <;> decide +kernel
 ·have hs : sizeOf a0 = if 66 ≤ a0 ∧ a0 < 77 then 4 else if 77 ≤ a0 ∧ a0 ≤ 87 then 8 else 0 := by
   unfold sizeOf; rw [if_neg (by omega), if_neg (by omega), if_neg (by omega), if_neg (by omega)]
  rw [hs]
  by_cases h1 : a0 < 11
  ·simp [inst_Size0.f, inst_Size0.j0, inst_Size0.j1, inst_Size0.j2, inst_Size0.j3, inst_Atomic.f, atomicB, show ¬ (11 ≤ a0) by omega, show ¬ (15 ≤ a0) by omega, show ¬ (18 ≤ a0) by omega, show ¬ (66 ≤ a0) by omega, show ¬ (77 ≤ a0) by omega]
  ·by_cases h2 : 66 ≤ a0
   ·by_cases h3 : a0 < 77
    ·simp [inst_Size0.f, inst_Size0.j0, inst_Size0.j1, inst_Size0.j2, inst_Size0.j3, inst_Atomic.f, atomicB, show 11 ≤ a0 by omega, show ¬ (a0 ≤ 14) by omega, show 15 ≤ a0 by omega, show ¬ (a0 ≤ 17) by omega, show 18 ≤ a0 by omega, show ¬ (a0 ≤ 21) by omega, h2, h3, show a0 ≤ 87 by omega]
    ·by_cases h4 : a0 ≤ 87
     ·simp [inst_Size0.f, inst_Size0.j0, inst_Size0.j1, inst_Size0.j2, inst_Size0.j3, inst_Atomic.f, atomicB, show 11 ≤ a0 by omega, show ¬ (a0 ≤ 14) by omega, show 15 ≤ a0 by omega, show ¬ (a0 ≤ 17) by omega, show 18 ≤ a0 by omega, show ¬ (a0 ≤ 21) by omega, h2, h3, h4, show 77 ≤ a0 by omega]
     ·simp [inst_Size0.f, inst_Size0.j0, inst_Size0.j1, inst_Size0.j2, inst_Size0.j3, inst_Atomic.f, atomicB, show 11 ≤ a0 by omega, show ¬ (a0 ≤ 14) by omega, show 15 ≤ a0 by omega, show ¬ (a0 ≤ 17) by omega, show 18 ≤ a0 by omega, show ¬ (a0 ≤ 21) by omega, h2, h3, h4]
   ·simp [inst_Size0.f, inst_Size0.j0, inst_Size0.j1, inst_Size0.j2, inst_Size0.j3, inst_Atomic.f, atomicB, show 11 ≤ a0 by omega, show ¬ (a0 ≤ 14) by omega, show 15 ≤ a0 by omega, show ¬ (a0 ≤ 17) by omega, show 18 ≤ a0 by omega, show ¬ (a0 ≤ 21) by omega, h2, show ¬ (77 ≤ a0) by omega]
theorem inst_Size.calls (a0 : Int) (r : Int) (w : World) (h : inst_Size.f a0 = some r) :
  Calls Tryz.prog 26 #[.int .i64 a0] w fun e w' => e = .returned (.int .i64 r) ∧ Drawn0 w w' := by
 obtain ⟨k, hk⟩ := inst_Size.spec a0 r h
 exact inst_Size0.calls k a0 r w hk
def alu_Address.j0 : Nat → Int → Bool → Int → Int → Int → Int → Int → Bool → Bool → Option (Int)
 | 0, _, _, _, _, _, _, _, _, _ => none
 | k + 1, x1, x5, x175000, x175001, x175002, x175003, x175004, x175005, x175006 => if x5 = true then (some (IntKind.u64.wrap (x1 + (IntKind.u64.wrap (x175004))))) else ((inst_Atomic.f x175000).bind fun t175 => (if t175 = true then (some x1) else (some 0)))
def alu_Address.f (k : Nat) (a0_0 : Int) (a0_1 : Int) (a0_2 : Int) (a0_3 : Int) (a0_4 : Int) (a0_5 : Bool) (a0_6 : Bool) (a1 : Int) : Option (Int) := if a0_0 ≥ 11 then (alu_Address.j0 k a1 (decide (a0_0 ≤ 21)) a0_0 a0_1 a0_2 a0_3 a0_4 a0_5 a0_6) else (alu_Address.j0 k a1 false a0_0 a0_1 a0_2 a0_3 a0_4 a0_5 a0_6)
theorem alu_Address.mono_l : ∀ k, (∀ y0 y1 y2 y3 y4 y5 y6 y7 y8, LeO (alu_Address.j0 k y0 y1 y2 y3 y4 y5 y6 y7 y8) (alu_Address.j0 (k + 1) y0 y1 y2 y3 y4 y5 y6 y7 y8))
 | 0 => fun _ _ _ _ _ _ _ _ _ r h => by simp [alu_Address.j0] at h
 | k + 1 => by
  have ih0 := alu_Address.mono_l k
  ·intro y0 y1 y2 y3 y4 y5 y6 y7 y8
   unfold alu_Address.j0
   exact leo
theorem alu_Address.mono : ∀ a0 a1 a2 a3 a4 a5 a6 a7 k, LeO (alu_Address.f k a0 a1 a2 a3 a4 a5 a6 a7) (alu_Address.f (k + 1) a0 a1 a2 a3 a4 a5 a6 a7) := by
 intro a0 a1 a2 a3 a4 a5 a6 a7 k
 have ih0 := alu_Address.mono_l k
 unfold alu_Address.f
 exact leo
set_option maxHeartbeats 8000000 in
set_option maxRecDepth 100000 in
theorem alu_Address.calls (k : Nat) (a0_0 : Int) (a0_1 : Int) (a0_2 : Int) (a0_3 : Int) (a0_4 : Int) (a0_5 : Bool) (a0_6 : Bool) (a1 : Int) (r : Int) (w : World) (h : alu_Address.f k a0_0 a0_1 a0_2 a0_3 a0_4 a0_5 a0_6 a1 = some r) :
  Calls Tryz.prog 50 #[.agg #[.int .i64 a0_0, .int .i64 a0_1, .int .i64 a0_2, .int .i64 a0_3, .int .i64 a0_4, .bool a0_5, .bool a0_6], .int .u64 a1] w fun e w' => e = .returned (.int .u64 r) ∧ Below w.heap.size w w' := by
 have hu50 := Tryz.underlying50
 have HB := am (Below.refl w.heap.size w)
 have H := h
 clear h
 unfold alu_Address.f at H
 have HC3 := am H
 clear H
 go_enter Tryz.func50, Tryz.ntmps50
 go_upto_region 1 with (first | ((with_reducible refine gate_dst (N := 2) rfl ?_); refine be 2 50 #[.int .i64 a0_0, .int .i64 a0_1, .int .i64 a0_2, .int .i64 a0_3, .int .i64 a0_4, .bool a0_5, .bool a0_6] ?_; intro gb174 hg w4 hbox hb; have BK174 := am hbox; have GW174 := bz HB hg; have GE174 := bz HB hg; replace HB := bn HB hb; clear hb hbox hg))
 (try simp only [Act.put, List.setIfInBounds_toArray, List.set_cons_zero, List.set_cons_succ])
 go_cut [5] (fun v5 wc => ∃ (kq : Nat) (x5_2 : Bool), v5 = .bool x5_2 ∧ Aside0 (alu_Address.j0 kq a1 x5_2 a0_0 a0_1 a0_2 a0_3 a0_4 a0_5 a0_6 = some r) ∧ Aside0 (kq ≤ k) ∧ Aside0 (wc.heap[gb174]? = some (.cells #[.int .i64 a0_0, .int .i64 a0_1, .int .i64 a0_2, .int .i64 a0_3, .int .i64 a0_4, .bool a0_5, .bool a0_6] 50 (0, 0))) ∧ Aside0 (Below w.heap.size w wc))
 case first =>
  have H := HC3.out
  clear HC3
  by_cases c5 : a0_0 ≥ 11
  ·rw [if_pos c5] at H
   have c5b0 : decide (11 ≤ a0_0) = true := decide_eq_true c5
   clear c5
   (first | rw [c5b0] | (simp only [i64_w, i32_w]; rw [c5b0]) | skip)
   have H' := am H
   clear H
   obtain ⟨z6_0, z6_1, z6_2, z6_3, z6_4, z6_5, z6_6, f6_0, f6_1, f6_2, f6_3, f6_4, f6_5, f6_6⟩ := cf7 BK174
   go_wp2
   go_meet
   case rel => exact ⟨_, (decide (a0_0 ≤ 21)), fr, H', ⟨om⟩, ⟨bu BK174⟩, ⟨bs HB GE174⟩⟩
  ·rw [if_neg c5] at H
   have c5b0 : decide (11 ≤ a0_0) = false := decide_eq_false c5
   clear c5
   (first | rw [c5b0] | (simp only [i64_w, i32_w]; rw [c5b0]) | skip)
   have H' := am H
   clear H
   obtain ⟨z7_0, z7_1, z7_2, z7_3, z7_4, z7_5, z7_6, f7_0, f7_1, f7_2, f7_3, f7_4, f7_5, f7_6⟩ := cf7 BK174
   go_wp2
   go_meet
   case rel => exact ⟨_, (false), fr, H', ⟨om⟩, ⟨bu BK174⟩, ⟨bs HB GE174⟩⟩
 case rest =>
  clear HC3
  try clear p2
  try clear c5
  try clear c5b0
  try clear z6_0
  try clear z6_1
  try clear z6_2
  try clear z6_3
  try clear z6_4
  try clear z6_5
  try clear z6_6
  try clear z7_0
  try clear z7_1
  try clear z7_2
  try clear z7_3
  try clear z7_4
  try clear z7_5
  try clear z7_6
  try clear f6_0
  try clear f6_1
  try clear f6_2
  try clear f6_3
  try clear f6_4
  try clear f6_5
  try clear f6_6
  try clear f7_0
  try clear f7_1
  try clear f7_2
  try clear f7_3
  try clear f7_4
  try clear f7_5
  try clear f7_6
  obtain ⟨kq, x5_2, rfl, HA, HJ2, BK174, HB⟩ := hcut
  cases kq with
  | zero => exact absurd HA.out (by simp [alu_Address.j0])
  | succ kj2 =>
   have H := HA.out
   clear HA
   simp only [alu_Address.j0] at H
   by_cases c8 : x5_2 = true
   ·subst c8
    rw [if_pos rfl] at H
    obtain rfl := Option.some.inj H
    obtain ⟨z9_0, z9_1, z9_2, z9_3, z9_4, z9_5, z9_6, f9_0, f9_1, f9_2, f9_3, f9_4, f9_5, f9_6⟩ := cf7 BK174
    go_wp2
    go_ret
    exact ⟨fe, bs HB GE174⟩
   ·replace c8 := Bool.eq_false_iff.mpr c8
    subst c8
    rw [if_neg ff] at H
    obtain ⟨t175, A10, H⟩ := bam H
    try dsimp only at H
    by_cases c11 : t175 = true
    ·subst c11
     rw [if_pos rfl] at H
     obtain rfl := Option.some.inj H
     obtain ⟨z12_0, z12_1, z12_2, z12_3, z12_4, z12_5, z12_6, f12_0, f12_1, f12_2, f12_3, f12_4, f12_5, f12_6⟩ := cf7 BK174
     go_wp2_with (first | ((with_reducible refine gate_callee (f := 49) rfl ?_); refine gl (some 22) rfl rfl Tryz.func49 rfl #[.int .i64 a0_0] rfl ?_; (with_reducible refine (inst_Atomic.calls a0_0 true _ A10.out).mono ?_); rintro e w' ⟨rfl, ⟨nd, rfl⟩⟩; refine ⟨_, rfl, ?_⟩))
     go_ret
     exact ⟨fe, bs HB GE174⟩
    ·replace c11 := Bool.eq_false_iff.mpr c11
     subst c11
     rw [if_neg ff] at H
     obtain rfl := Option.some.inj H
     obtain ⟨z13_0, z13_1, z13_2, z13_3, z13_4, z13_5, z13_6, f13_0, f13_1, f13_2, f13_3, f13_4, f13_5, f13_6⟩ := cf7 BK174
     go_wp2_with (first | ((with_reducible refine gate_callee (f := 49) rfl ?_); refine gl (some 22) rfl rfl Tryz.func49 rfl #[.int .i64 a0_0] rfl ?_; (with_reducible refine (inst_Atomic.calls a0_0 false _ A10.out).mono ?_); rintro e w' ⟨rfl, ⟨nd, rfl⟩⟩; refine ⟨_, rfl, ?_⟩))
     go_ret
     exact ⟨fe, bs HB GE174⟩
def inst_Stores0.f (a0 : Int) : Option (Bool) := if a0 ≥ 18 then (if a0 ≤ 21 then (some true) else ((inst_Atomic.f a0).bind fun t176 => (if t176 = true then (if a0 = 66 then (some false) else (some (a0 != 77))) else (some false)))) else ((inst_Atomic.f a0).bind fun t177 => (if t177 = true then (if a0 = 66 then (some false) else (some (a0 != 77))) else (some false)))
set_option maxHeartbeats 8000000 in
set_option maxRecDepth 100000 in
theorem inst_Stores0.calls (a0 : Int) (r : Bool) (w : World) (h : inst_Stores0.f a0 = some r) :
  Calls Tryz.prog 53 #[.int .i64 a0] w fun e w' => e = .returned (.bool r) ∧ Drawn0 w w' := by
 have H := h
 clear h
 unfold inst_Stores0.f at H
 by_cases c2 : a0 ≥ 18
 ·rw [if_pos c2] at H
  have c2b0 : decide (18 ≤ a0) = true := decide_eq_true c2
  clear c2
  by_cases c3 : a0 ≤ 21
  ·rw [if_pos c3] at H
   have c3b0 : decide (a0 ≤ 21) = true := decide_eq_true c3
   clear c3
   obtain rfl := Option.some.inj H
   go_enter Tryz.func53, Tryz.ntmps53
   go_wp2
   go_ret
   exact fd
  ·rw [if_neg c3] at H
   have c3b0 : decide (a0 ≤ 21) = false := decide_eq_false c3
   clear c3
   obtain ⟨t176, A4, H⟩ := bam H
   try dsimp only at H
   by_cases c5 : t176 = true
   ·subst c5
    rw [if_pos rfl] at H
    by_cases c6 : a0 = 66
    ·rw [if_pos c6] at H
     obtain ⟨c6b0, c6b1⟩ := bqt c6
     clear c6
     obtain rfl := Option.some.inj H
     go_enter Tryz.func53, Tryz.ntmps53
     go_wp2_with (first | (go_at_call 49; (with_reducible refine (inst_Atomic.calls a0 true _ A4.out).mono ?_); rintro e w' ⟨rfl, ⟨nd, rfl⟩⟩))
     go_ret
     exact fd
    ·rw [if_neg c6] at H
     obtain ⟨c6b0, c6b1⟩ := bqf c6
     obtain rfl := Option.some.inj H
     go_enter Tryz.func53, Tryz.ntmps53
     go_wp2_with (first | (go_at_call 49; (with_reducible refine (inst_Atomic.calls a0 true _ A4.out).mono ?_); rintro e w' ⟨rfl, ⟨nd, rfl⟩⟩))
     go_ret
     exact fd
   ·replace c5 := Bool.eq_false_iff.mpr c5
    subst c5
    rw [if_neg ff] at H
    obtain rfl := Option.some.inj H
    go_enter Tryz.func53, Tryz.ntmps53
    go_wp2_with (first | (go_at_call 49; (with_reducible refine (inst_Atomic.calls a0 false _ A4.out).mono ?_); rintro e w' ⟨rfl, ⟨nd, rfl⟩⟩))
    go_ret
    exact fd
 ·rw [if_neg c2] at H
  have c2b0 : decide (18 ≤ a0) = false := decide_eq_false c2
  clear c2
  obtain ⟨t177, A7, H⟩ := bam H
  try dsimp only at H
  by_cases c8 : t177 = true
  ·subst c8
   rw [if_pos rfl] at H
   by_cases c9 : a0 = 66
   ·rw [if_pos c9] at H
    obtain ⟨c9b0, c9b1⟩ := bqt c9
    clear c9
    obtain rfl := Option.some.inj H
    go_enter Tryz.func53, Tryz.ntmps53
    go_wp2_with (first | (go_at_call 49; (with_reducible refine (inst_Atomic.calls a0 true _ A7.out).mono ?_); rintro e w' ⟨rfl, ⟨nd, rfl⟩⟩))
    go_ret
    exact fd
   ·rw [if_neg c9] at H
    obtain ⟨c9b0, c9b1⟩ := bqf c9
    obtain rfl := Option.some.inj H
    go_enter Tryz.func53, Tryz.ntmps53
    go_wp2_with (first | (go_at_call 49; (with_reducible refine (inst_Atomic.calls a0 true _ A7.out).mono ?_); rintro e w' ⟨rfl, ⟨nd, rfl⟩⟩))
    go_ret
    exact fd
  ·replace c8 := Bool.eq_false_iff.mpr c8
   subst c8
   rw [if_neg ff] at H
   obtain rfl := Option.some.inj H
   go_enter Tryz.func53, Tryz.ntmps53
   go_wp2_with (first | (go_at_call 49; (with_reducible refine (inst_Atomic.calls a0 false _ A7.out).mono ?_); rintro e w' ⟨rfl, ⟨nd, rfl⟩⟩))
   go_ret
   exact fd
def inst_Stores.f (a0 : Int) : Option (Bool) := some (storesB a0)
theorem inst_Stores.spec (a0 : Int) (r : Bool) (h : inst_Stores.f a0 = some r) : inst_Stores0.f a0 = some r := by
 rw [← h]; unfold inst_Stores.f storesB
 by_cases h1 : 18 ≤ a0 <;> by_cases h2 : a0 ≤ 21 <;> by_cases h3 : 66 ≤ a0 <;> by_cases h4 : a0 ≤ 87 <;> by_cases h5 : a0 = 66 <;> by_cases h6 : a0 = 77 <;> first | omega | (simp [inst_Stores0.f, inst_Atomic.f, atomicB, *]; done) | (subst_vars; decide +kernel)
theorem inst_Stores.calls (a0 : Int) (r : Bool) (w : World) (h : inst_Stores.f a0 = some r) :
  Calls Tryz.prog 53 #[.int .i64 a0] w fun e w' => e = .returned (.bool r) ∧ Drawn0 w w' := by
 have hk := inst_Stores.spec a0 r h
 exact inst_Stores0.calls a0 r w hk
def alu_Stored.j0 : Nat → Int → Int → Int → Int → Option (Int)
 | 0, _, _, _, _ => none
 | k + 1, x1, x2, x7, x8 => (bits_Sign.f x1 x7).bind fun t180 => ((bits_Sign.f x2 x7).bind fun t181 => ((bits_Field.f x1 0 x7).bind fun t182 => ((bits_Field.f x2 0 x7).bind fun t183 => (if x8 = 69 then ((bits_Field.f (IntKind.u64.wrap (t181 + t180)) 0 x7).bind fun t184 => (some t184)) else (if x8 = 70 then ((bits_Field.f (Go.bits .xor .u64 t181 t180) 0 x7).bind fun t185 => (some t185)) else (if x8 = 71 then ((bits_Field.f (Go.bits .and .u64 t181 t180) 0 x7).bind fun t186 => (some t186)) else (if x8 = 72 then ((bits_Field.f (Go.bits .or .u64 t181 t180) 0 x7).bind fun t187 => (some t187)) else (if x8 = 73 then ((bits_Field.f (IntKind.u64.wrap (mn (wrap64 (t180)) (wrap64 (t181)))) 0 x7).bind fun t188 => (some t188)) else (if x8 = 74 then ((bits_Field.f (IntKind.u64.wrap (mx (wrap64 (t180)) (wrap64 (t181)))) 0 x7).bind fun t189 => (some t189)) else (if x8 = 75 then ((bits_Field.f (mn t182 t183) 0 x7).bind fun t190 => (some t190)) else (if x8 = 76 then ((bits_Field.f (mx t182 t183) 0 x7).bind fun t191 => (some t191)) else ((bits_Field.f t181 0 x7).bind fun t192 => (some t192)))))))))))))
def alu_Stored.f (k : Nat) (a0 : Int) (a1 : Int) (a2 : Int) : Option (Int) := (inst_Stores.f a0).bind fun t178 => (if t178 = true then ((inst_Size.f a0).bind fun t179 => (if a0 ≥ 77 then (alu_Stored.j0 k a1 a2 (wrap64 (8 * t179)) (wrap64 (a0 - 11))) else (alu_Stored.j0 k a1 a2 (wrap64 (8 * t179)) a0))) else (some 0))
theorem alu_Stored.mono_l : ∀ k, (∀ y0 y1 y2 y3, LeO (alu_Stored.j0 k y0 y1 y2 y3) (alu_Stored.j0 (k + 1) y0 y1 y2 y3))
 | 0 => fun _ _ _ _ r h => by simp [alu_Stored.j0] at h
 | k + 1 => by
  have ih0 := alu_Stored.mono_l k
  ·intro y0 y1 y2 y3
   unfold alu_Stored.j0
   exact leo
theorem alu_Stored.mono : ∀ a0 a1 a2 k, LeO (alu_Stored.f k a0 a1 a2) (alu_Stored.f (k + 1) a0 a1 a2) := by
 intro a0 a1 a2 k
 have ih0 := alu_Stored.mono_l k
 unfold alu_Stored.f
 exact leo
set_option maxHeartbeats 8000000 in
set_option maxRecDepth 100000 in
theorem alu_Stored.calls (k : Nat) (a0 : Int) (a1 : Int) (a2 : Int) (r : Int) (w : World) (h : alu_Stored.f k a0 a1 a2 = some r) :
  Calls Tryz.prog 51 #[.int .i64 a0, .int .u64 a1, .int .u64 a2] w fun e w' => e = .returned (.int .u64 r) ∧ Below w.heap.size w w' := by
 have HB := am (Below.refl w.heap.size w)
 have H := h
 clear h
 unfold alu_Stored.f at H
 obtain ⟨t178, A4, H⟩ := bam H
 try dsimp only at H
 by_cases c5 : t178 = true
 ·subst c5
  rw [if_pos rfl] at H
  obtain ⟨t179, A6, H⟩ := bam H
  try dsimp only at H
  have HC7 := am H
  clear H
  go_enter Tryz.func51, Tryz.ntmps51
  go_upto_if 21 with (first | ((with_reducible refine gate_callee (f := 53) rfl ?_); refine gl (some 14) rfl rfl Tryz.func53 rfl #[.int .i64 a0] rfl ?_; (with_reducible refine (inst_Stores.calls a0 true _ A4.out).mono ?_); rintro e w' ⟨rfl, ⟨nd, rfl⟩⟩; refine ⟨_, rfl, ?_⟩) | ((with_reducible refine gate_callee (f := 26) rfl ?_); refine gl (some 17) rfl rfl Tryz.func26 rfl #[.int .i64 a0] rfl ?_; (with_reducible refine (inst_Size.calls a0 t179 _ A6.out).mono ?_); rintro e w' ⟨rfl, ⟨nd, rfl⟩⟩; refine ⟨_, rfl, ?_⟩))
  (try simp only [Act.put, List.setIfInBounds_toArray, List.set_cons_zero, List.set_cons_succ])
  go_cut [8] (fun v8 wc => ∃ (kq : Nat) (x8_6 : Int), v8 = .int .i64 x8_6 ∧ Aside0 (alu_Stored.j0 kq a1 a2 (wrap64 (8 * t179)) x8_6 = some r) ∧ Aside0 (kq ≤ k) ∧ Aside0 (Below w.heap.size w wc))
  case first =>
   have H := HC7.out
   clear HC7
   by_cases c8 : a0 ≥ 77
   ·rw [if_pos c8] at H
    have c8b0 : decide (77 ≤ a0) = true := decide_eq_true c8
    clear c8
    (first | rw [c8b0] | (simp only [i64_w, i32_w]; rw [c8b0]) | skip)
    have H' := am H
    clear H
    go_wp2
    go_meet
    case rel => exact ⟨_, (wrap64 (a0 - 11)), fr, H', ⟨om⟩, ⟨bb HB⟩⟩
   ·rw [if_neg c8] at H
    have c8b0 : decide (77 ≤ a0) = false := decide_eq_false c8
    clear c8
    (first | rw [c8b0] | (simp only [i64_w, i32_w]; rw [c8b0]) | skip)
    have H' := am H
    clear H
    go_wp2
    go_meet
    case rel => exact ⟨_, (a0), fr, H', ⟨om⟩, ⟨bb HB⟩⟩
  case rest =>
   clear HC7
   try clear c2
   try clear p2
   try clear c5
   try clear p6
   try clear c8
   try clear c8b0
   obtain ⟨kq, x8_6, rfl, HA, HJ6, HB⟩ := hcut
   cases kq with
   | zero => exact absurd HA.out (by simp [alu_Stored.j0])
   | succ kj6 =>
    have H := HA.out
    clear HA
    simp only [alu_Stored.j0] at H
    obtain ⟨t180, A9, H⟩ := bam H
    try dsimp only at H
    obtain ⟨t181, A10, H⟩ := bam H
    try dsimp only at H
    obtain ⟨t182, A11, H⟩ := bam H
    try dsimp only at H
    obtain ⟨t183, A12, H⟩ := bam H
    try dsimp only at H
    by_cases c13 : x8_6 = 69
    ·rw [if_pos c13] at H
     obtain ⟨c13b0, c13b1⟩ := bqt c13
     clear c13
     replace H := Option.bind_eq_some_iff.mp H
     obtain ⟨t184, A140, H⟩ := H
     replace H : (some t184) = some r := H
     have A14 := am A140
     clear A140
     obtain rfl := Option.some.inj H
     go_wp2_with (first | ((with_reducible refine gate_callee (f := 58) rfl ?_); refine gl (some 26) rfl rfl Tryz.func58 rfl #[.int .u64 a1, .int .i64 (wrap64 (8 * t179))] rfl ?_; (with_reducible refine (bits_Sign.calls a1 (wrap64 (8 * t179)) t180 _ A9.out).mono ?_); rintro e w' ⟨rfl, ⟨nd, rfl⟩⟩; refine ⟨_, rfl, ?_⟩) | ((with_reducible refine gate_callee (f := 58) rfl ?_); refine gl (some 29) rfl rfl Tryz.func58 rfl #[.int .u64 a2, .int .i64 (wrap64 (8 * t179))] rfl ?_; (with_reducible refine (bits_Sign.calls a2 (wrap64 (8 * t179)) t181 _ A10.out).mono ?_); rintro e w' ⟨rfl, ⟨nd, rfl⟩⟩; refine ⟨_, rfl, ?_⟩) | ((with_reducible refine gate_callee (f := 82) rfl ?_); refine gl (some 32) rfl rfl Tryz.func82 rfl #[.int .u64 a1, .int .i64 0, .int .i64 (wrap64 (8 * t179))] rfl ?_; (with_reducible refine (bits_Field.calls a1 0 (wrap64 (8 * t179)) t182 _ A11.out).mono ?_); rintro e w' ⟨rfl, ⟨nd, rfl⟩⟩; refine ⟨_, rfl, ?_⟩) | ((with_reducible refine gate_callee (f := 82) rfl ?_); refine gl (some 35) rfl rfl Tryz.func82 rfl #[.int .u64 a2, .int .i64 0, .int .i64 (wrap64 (8 * t179))] rfl ?_; (with_reducible refine (bits_Field.calls a2 0 (wrap64 (8 * t179)) t183 _ A12.out).mono ?_); rintro e w' ⟨rfl, ⟨nd, rfl⟩⟩; refine ⟨_, rfl, ?_⟩) | ((with_reducible refine gate_callee (f := 82) rfl ?_); refine gl (some 85) rfl rfl Tryz.func82 rfl #[.int .u64 (IntKind.u64.wrap (t181 + t180)), .int .i64 0, .int .i64 (wrap64 (8 * t179))] rfl ?_; (with_reducible refine (bits_Field.calls (IntKind.u64.wrap (t181 + t180)) 0 (wrap64 (8 * t179)) t184 _ A14.out).mono ?_); rintro e w' ⟨rfl, ⟨nd, rfl⟩⟩; refine ⟨_, rfl, ?_⟩))
     go_ret
     exact ⟨fe, bb HB⟩
    ·rw [if_neg c13] at H
     obtain ⟨c13b0, c13b1⟩ := bqf c13
     by_cases c15 : x8_6 = 70
     ·rw [if_pos c15] at H
      obtain ⟨c15b0, c15b1⟩ := bqt c15
      clear c15
      replace H := Option.bind_eq_some_iff.mp H
      obtain ⟨t185, A160, H⟩ := H
      replace H : (some t185) = some r := H
      have A16 := am A160
      clear A160
      obtain rfl := Option.some.inj H
      go_wp2_with (first | ((with_reducible refine gate_callee (f := 58) rfl ?_); refine gl (some 26) rfl rfl Tryz.func58 rfl #[.int .u64 a1, .int .i64 (wrap64 (8 * t179))] rfl ?_; (with_reducible refine (bits_Sign.calls a1 (wrap64 (8 * t179)) t180 _ A9.out).mono ?_); rintro e w' ⟨rfl, ⟨nd, rfl⟩⟩; refine ⟨_, rfl, ?_⟩) | ((with_reducible refine gate_callee (f := 58) rfl ?_); refine gl (some 29) rfl rfl Tryz.func58 rfl #[.int .u64 a2, .int .i64 (wrap64 (8 * t179))] rfl ?_; (with_reducible refine (bits_Sign.calls a2 (wrap64 (8 * t179)) t181 _ A10.out).mono ?_); rintro e w' ⟨rfl, ⟨nd, rfl⟩⟩; refine ⟨_, rfl, ?_⟩) | ((with_reducible refine gate_callee (f := 82) rfl ?_); refine gl (some 32) rfl rfl Tryz.func82 rfl #[.int .u64 a1, .int .i64 0, .int .i64 (wrap64 (8 * t179))] rfl ?_; (with_reducible refine (bits_Field.calls a1 0 (wrap64 (8 * t179)) t182 _ A11.out).mono ?_); rintro e w' ⟨rfl, ⟨nd, rfl⟩⟩; refine ⟨_, rfl, ?_⟩) | ((with_reducible refine gate_callee (f := 82) rfl ?_); refine gl (some 35) rfl rfl Tryz.func82 rfl #[.int .u64 a2, .int .i64 0, .int .i64 (wrap64 (8 * t179))] rfl ?_; (with_reducible refine (bits_Field.calls a2 0 (wrap64 (8 * t179)) t183 _ A12.out).mono ?_); rintro e w' ⟨rfl, ⟨nd, rfl⟩⟩; refine ⟨_, rfl, ?_⟩) | ((with_reducible refine gate_callee (f := 82) rfl ?_); refine gl (some 85) rfl rfl Tryz.func82 rfl #[.int .u64 (Go.bits .xor .u64 t181 t180), .int .i64 0, .int .i64 (wrap64 (8 * t179))] rfl ?_; (with_reducible refine (bits_Field.calls (Go.bits .xor .u64 t181 t180) 0 (wrap64 (8 * t179)) t185 _ A16.out).mono ?_); rintro e w' ⟨rfl, ⟨nd, rfl⟩⟩; refine ⟨_, rfl, ?_⟩))
      go_ret
      exact ⟨fe, bb HB⟩
     ·rw [if_neg c15] at H
      obtain ⟨c15b0, c15b1⟩ := bqf c15
      by_cases c17 : x8_6 = 71
      ·rw [if_pos c17] at H
       obtain ⟨c17b0, c17b1⟩ := bqt c17
       clear c17
       replace H := Option.bind_eq_some_iff.mp H
       obtain ⟨t186, A180, H⟩ := H
       replace H : (some t186) = some r := H
       have A18 := am A180
       clear A180
       obtain rfl := Option.some.inj H
       go_wp2_with (first | ((with_reducible refine gate_callee (f := 58) rfl ?_); refine gl (some 26) rfl rfl Tryz.func58 rfl #[.int .u64 a1, .int .i64 (wrap64 (8 * t179))] rfl ?_; (with_reducible refine (bits_Sign.calls a1 (wrap64 (8 * t179)) t180 _ A9.out).mono ?_); rintro e w' ⟨rfl, ⟨nd, rfl⟩⟩; refine ⟨_, rfl, ?_⟩) | ((with_reducible refine gate_callee (f := 58) rfl ?_); refine gl (some 29) rfl rfl Tryz.func58 rfl #[.int .u64 a2, .int .i64 (wrap64 (8 * t179))] rfl ?_; (with_reducible refine (bits_Sign.calls a2 (wrap64 (8 * t179)) t181 _ A10.out).mono ?_); rintro e w' ⟨rfl, ⟨nd, rfl⟩⟩; refine ⟨_, rfl, ?_⟩) | ((with_reducible refine gate_callee (f := 82) rfl ?_); refine gl (some 32) rfl rfl Tryz.func82 rfl #[.int .u64 a1, .int .i64 0, .int .i64 (wrap64 (8 * t179))] rfl ?_; (with_reducible refine (bits_Field.calls a1 0 (wrap64 (8 * t179)) t182 _ A11.out).mono ?_); rintro e w' ⟨rfl, ⟨nd, rfl⟩⟩; refine ⟨_, rfl, ?_⟩) | ((with_reducible refine gate_callee (f := 82) rfl ?_); refine gl (some 35) rfl rfl Tryz.func82 rfl #[.int .u64 a2, .int .i64 0, .int .i64 (wrap64 (8 * t179))] rfl ?_; (with_reducible refine (bits_Field.calls a2 0 (wrap64 (8 * t179)) t183 _ A12.out).mono ?_); rintro e w' ⟨rfl, ⟨nd, rfl⟩⟩; refine ⟨_, rfl, ?_⟩) | ((with_reducible refine gate_callee (f := 82) rfl ?_); refine gl (some 85) rfl rfl Tryz.func82 rfl #[.int .u64 (Go.bits .and .u64 t181 t180), .int .i64 0, .int .i64 (wrap64 (8 * t179))] rfl ?_; (with_reducible refine (bits_Field.calls (Go.bits .and .u64 t181 t180) 0 (wrap64 (8 * t179)) t186 _ A18.out).mono ?_); rintro e w' ⟨rfl, ⟨nd, rfl⟩⟩; refine ⟨_, rfl, ?_⟩))
       go_ret
       exact ⟨fe, bb HB⟩
      ·rw [if_neg c17] at H
       obtain ⟨c17b0, c17b1⟩ := bqf c17
       by_cases c19 : x8_6 = 72
       ·rw [if_pos c19] at H
        obtain ⟨c19b0, c19b1⟩ := bqt c19
        clear c19
        replace H := Option.bind_eq_some_iff.mp H
        obtain ⟨t187, A200, H⟩ := H
        replace H : (some t187) = some r := H
        have A20 := am A200
        clear A200
        obtain rfl := Option.some.inj H
        go_wp2_with (first | ((with_reducible refine gate_callee (f := 58) rfl ?_); refine gl (some 26) rfl rfl Tryz.func58 rfl #[.int .u64 a1, .int .i64 (wrap64 (8 * t179))] rfl ?_; (with_reducible refine (bits_Sign.calls a1 (wrap64 (8 * t179)) t180 _ A9.out).mono ?_); rintro e w' ⟨rfl, ⟨nd, rfl⟩⟩; refine ⟨_, rfl, ?_⟩) | ((with_reducible refine gate_callee (f := 58) rfl ?_); refine gl (some 29) rfl rfl Tryz.func58 rfl #[.int .u64 a2, .int .i64 (wrap64 (8 * t179))] rfl ?_; (with_reducible refine (bits_Sign.calls a2 (wrap64 (8 * t179)) t181 _ A10.out).mono ?_); rintro e w' ⟨rfl, ⟨nd, rfl⟩⟩; refine ⟨_, rfl, ?_⟩) | ((with_reducible refine gate_callee (f := 82) rfl ?_); refine gl (some 32) rfl rfl Tryz.func82 rfl #[.int .u64 a1, .int .i64 0, .int .i64 (wrap64 (8 * t179))] rfl ?_; (with_reducible refine (bits_Field.calls a1 0 (wrap64 (8 * t179)) t182 _ A11.out).mono ?_); rintro e w' ⟨rfl, ⟨nd, rfl⟩⟩; refine ⟨_, rfl, ?_⟩) | ((with_reducible refine gate_callee (f := 82) rfl ?_); refine gl (some 35) rfl rfl Tryz.func82 rfl #[.int .u64 a2, .int .i64 0, .int .i64 (wrap64 (8 * t179))] rfl ?_; (with_reducible refine (bits_Field.calls a2 0 (wrap64 (8 * t179)) t183 _ A12.out).mono ?_); rintro e w' ⟨rfl, ⟨nd, rfl⟩⟩; refine ⟨_, rfl, ?_⟩) | ((with_reducible refine gate_callee (f := 82) rfl ?_); refine gl (some 85) rfl rfl Tryz.func82 rfl #[.int .u64 (Go.bits .or .u64 t181 t180), .int .i64 0, .int .i64 (wrap64 (8 * t179))] rfl ?_; (with_reducible refine (bits_Field.calls (Go.bits .or .u64 t181 t180) 0 (wrap64 (8 * t179)) t187 _ A20.out).mono ?_); rintro e w' ⟨rfl, ⟨nd, rfl⟩⟩; refine ⟨_, rfl, ?_⟩))
        go_ret
        exact ⟨fe, bb HB⟩
       ·rw [if_neg c19] at H
        obtain ⟨c19b0, c19b1⟩ := bqf c19
        by_cases c21 : x8_6 = 73
        ·rw [if_pos c21] at H
         obtain ⟨c21b0, c21b1⟩ := bqt c21
         clear c21
         obtain ⟨ji22, hji22⟩ : ∃ j_ : Int, (mn (wrap64 (t180)) (wrap64 (t181))) = j_ := ⟨_, rfl⟩
         replace H : ((bits_Field.f (IntKind.u64.wrap (ji22)) 0 (wrap64 (8 * t179))).bind fun t188 => (some t188)) = some r := by first | (rw [hji22] at H; exact H) | (simp only [hji22] at H ⊢; exact H)
         (try rw [hji22] at A9)
         (try rw [hji22] at A10)
         (try rw [hji22] at A11)
         (try rw [hji22] at A12)
         have hji22_ : (if (wrap64 (t181)) < (wrap64 (t180)) then (wrap64 (t181)) else (wrap64 (t180))) = ji22 := hji22
         replace H := Option.bind_eq_some_iff.mp H
         obtain ⟨t188, A230, H⟩ := H
         replace H : (some t188) = some r := H
         have A23 := am A230
         clear A230
         obtain rfl := Option.some.inj H
         go_wp2_with (first | ((with_reducible refine gate_callee (f := 58) rfl ?_); refine gl (some 26) rfl rfl Tryz.func58 rfl #[.int .u64 a1, .int .i64 (wrap64 (8 * t179))] rfl ?_; (with_reducible refine (bits_Sign.calls a1 (wrap64 (8 * t179)) t180 _ A9.out).mono ?_); rintro e w' ⟨rfl, ⟨nd, rfl⟩⟩; refine ⟨_, rfl, ?_⟩) | ((with_reducible refine gate_callee (f := 58) rfl ?_); refine gl (some 29) rfl rfl Tryz.func58 rfl #[.int .u64 a2, .int .i64 (wrap64 (8 * t179))] rfl ?_; (with_reducible refine (bits_Sign.calls a2 (wrap64 (8 * t179)) t181 _ A10.out).mono ?_); rintro e w' ⟨rfl, ⟨nd, rfl⟩⟩; refine ⟨_, rfl, ?_⟩) | ((with_reducible refine gate_callee (f := 82) rfl ?_); refine gl (some 32) rfl rfl Tryz.func82 rfl #[.int .u64 a1, .int .i64 0, .int .i64 (wrap64 (8 * t179))] rfl ?_; (with_reducible refine (bits_Field.calls a1 0 (wrap64 (8 * t179)) t182 _ A11.out).mono ?_); rintro e w' ⟨rfl, ⟨nd, rfl⟩⟩; refine ⟨_, rfl, ?_⟩) | ((with_reducible refine gate_callee (f := 82) rfl ?_); refine gl (some 35) rfl rfl Tryz.func82 rfl #[.int .u64 a2, .int .i64 0, .int .i64 (wrap64 (8 * t179))] rfl ?_; (with_reducible refine (bits_Field.calls a2 0 (wrap64 (8 * t179)) t183 _ A12.out).mono ?_); rintro e w' ⟨rfl, ⟨nd, rfl⟩⟩; refine ⟨_, rfl, ?_⟩) | ((with_reducible refine gate_callee (f := 82) rfl ?_); refine goesL_ (some 85) rfl rfl Tryz.func82 (by kernel_rfl) rfl #[.int .u64 (IntKind.u64.wrap (ji22)), .int .i64 0, .int .i64 (wrap64 (8 * t179))] rfl (by (try simp only [List.map_toArray, List.map_cons, List.map_nil]); first | done | (simp only [hji22]; rfl) | rfl | (simp only [List.length_drop, List.length_take]; rfl)) ?_; (with_reducible refine (bits_Field.calls (IntKind.u64.wrap (ji22)) 0 (wrap64 (8 * t179)) t188 _ A23.out).mono ?_); rintro e w' ⟨rfl, ⟨nd, rfl⟩⟩; refine ⟨_, rfl, ?_⟩))
         go_ret
         exact ⟨by first | rfl | (simp [errW_none, errW_some] <;> rfl) | (simp only [← hji22]; first | rfl | (simp [errW_none, errW_some] <;> rfl)) | (simp [*, errW_none, errW_some] <;> rfl), bb HB⟩
        ·rw [if_neg c21] at H
         obtain ⟨c21b0, c21b1⟩ := bqf c21
         by_cases c24 : x8_6 = 74
         ·rw [if_pos c24] at H
          obtain ⟨c24b0, c24b1⟩ := bqt c24
          clear c24
          obtain ⟨ji25, hji25⟩ : ∃ j_ : Int, (mx (wrap64 (t180)) (wrap64 (t181))) = j_ := ⟨_, rfl⟩
          replace H : ((bits_Field.f (IntKind.u64.wrap (ji25)) 0 (wrap64 (8 * t179))).bind fun t189 => (some t189)) = some r := by first | (rw [hji25] at H; exact H) | (simp only [hji25] at H ⊢; exact H)
          (try rw [hji25] at A9)
          (try rw [hji25] at A10)
          (try rw [hji25] at A11)
          (try rw [hji25] at A12)
          have hji25_ : (if (wrap64 (t180)) < (wrap64 (t181)) then (wrap64 (t181)) else (wrap64 (t180))) = ji25 := hji25
          replace H := Option.bind_eq_some_iff.mp H
          obtain ⟨t189, A260, H⟩ := H
          replace H : (some t189) = some r := H
          have A26 := am A260
          clear A260
          obtain rfl := Option.some.inj H
          go_wp2_with (first | ((with_reducible refine gate_callee (f := 58) rfl ?_); refine gl (some 26) rfl rfl Tryz.func58 rfl #[.int .u64 a1, .int .i64 (wrap64 (8 * t179))] rfl ?_; (with_reducible refine (bits_Sign.calls a1 (wrap64 (8 * t179)) t180 _ A9.out).mono ?_); rintro e w' ⟨rfl, ⟨nd, rfl⟩⟩; refine ⟨_, rfl, ?_⟩) | ((with_reducible refine gate_callee (f := 58) rfl ?_); refine gl (some 29) rfl rfl Tryz.func58 rfl #[.int .u64 a2, .int .i64 (wrap64 (8 * t179))] rfl ?_; (with_reducible refine (bits_Sign.calls a2 (wrap64 (8 * t179)) t181 _ A10.out).mono ?_); rintro e w' ⟨rfl, ⟨nd, rfl⟩⟩; refine ⟨_, rfl, ?_⟩) | ((with_reducible refine gate_callee (f := 82) rfl ?_); refine gl (some 32) rfl rfl Tryz.func82 rfl #[.int .u64 a1, .int .i64 0, .int .i64 (wrap64 (8 * t179))] rfl ?_; (with_reducible refine (bits_Field.calls a1 0 (wrap64 (8 * t179)) t182 _ A11.out).mono ?_); rintro e w' ⟨rfl, ⟨nd, rfl⟩⟩; refine ⟨_, rfl, ?_⟩) | ((with_reducible refine gate_callee (f := 82) rfl ?_); refine gl (some 35) rfl rfl Tryz.func82 rfl #[.int .u64 a2, .int .i64 0, .int .i64 (wrap64 (8 * t179))] rfl ?_; (with_reducible refine (bits_Field.calls a2 0 (wrap64 (8 * t179)) t183 _ A12.out).mono ?_); rintro e w' ⟨rfl, ⟨nd, rfl⟩⟩; refine ⟨_, rfl, ?_⟩) | ((with_reducible refine gate_callee (f := 82) rfl ?_); refine goesL_ (some 85) rfl rfl Tryz.func82 (by kernel_rfl) rfl #[.int .u64 (IntKind.u64.wrap (ji25)), .int .i64 0, .int .i64 (wrap64 (8 * t179))] rfl (by (try simp only [List.map_toArray, List.map_cons, List.map_nil]); first | done | (simp only [hji25]; rfl) | rfl | (simp only [List.length_drop, List.length_take]; rfl)) ?_; (with_reducible refine (bits_Field.calls (IntKind.u64.wrap (ji25)) 0 (wrap64 (8 * t179)) t189 _ A26.out).mono ?_); rintro e w' ⟨rfl, ⟨nd, rfl⟩⟩; refine ⟨_, rfl, ?_⟩))
          go_ret
          exact ⟨by first | rfl | (simp [errW_none, errW_some] <;> rfl) | (simp only [← hji25]; first | rfl | (simp [errW_none, errW_some] <;> rfl)) | (simp [*, errW_none, errW_some] <;> rfl), bb HB⟩
         ·rw [if_neg c24] at H
          obtain ⟨c24b0, c24b1⟩ := bqf c24
          by_cases c27 : x8_6 = 75
          ·rw [if_pos c27] at H
           obtain ⟨c27b0, c27b1⟩ := bqt c27
           clear c27
           obtain ⟨ji28, hji28⟩ : ∃ j_ : Int, (mn t182 t183) = j_ := ⟨_, rfl⟩
           replace H : ((bits_Field.f (ji28) 0 (wrap64 (8 * t179))).bind fun t190 => (some t190)) = some r := by first | (rw [hji28] at H; exact H) | (simp only [hji28] at H ⊢; exact H)
           (try rw [hji28] at A9)
           (try rw [hji28] at A10)
           (try rw [hji28] at A11)
           (try rw [hji28] at A12)
           have hji28_ : (if t183 < t182 then t183 else t182) = ji28 := hji28
           replace H := Option.bind_eq_some_iff.mp H
           obtain ⟨t190, A290, H⟩ := H
           replace H : (some t190) = some r := H
           have A29 := am A290
           clear A290
           obtain rfl := Option.some.inj H
           go_wp2_with (first | ((with_reducible refine gate_callee (f := 58) rfl ?_); refine gl (some 26) rfl rfl Tryz.func58 rfl #[.int .u64 a1, .int .i64 (wrap64 (8 * t179))] rfl ?_; (with_reducible refine (bits_Sign.calls a1 (wrap64 (8 * t179)) t180 _ A9.out).mono ?_); rintro e w' ⟨rfl, ⟨nd, rfl⟩⟩; refine ⟨_, rfl, ?_⟩) | ((with_reducible refine gate_callee (f := 58) rfl ?_); refine gl (some 29) rfl rfl Tryz.func58 rfl #[.int .u64 a2, .int .i64 (wrap64 (8 * t179))] rfl ?_; (with_reducible refine (bits_Sign.calls a2 (wrap64 (8 * t179)) t181 _ A10.out).mono ?_); rintro e w' ⟨rfl, ⟨nd, rfl⟩⟩; refine ⟨_, rfl, ?_⟩) | ((with_reducible refine gate_callee (f := 82) rfl ?_); refine gl (some 32) rfl rfl Tryz.func82 rfl #[.int .u64 a1, .int .i64 0, .int .i64 (wrap64 (8 * t179))] rfl ?_; (with_reducible refine (bits_Field.calls a1 0 (wrap64 (8 * t179)) t182 _ A11.out).mono ?_); rintro e w' ⟨rfl, ⟨nd, rfl⟩⟩; refine ⟨_, rfl, ?_⟩) | ((with_reducible refine gate_callee (f := 82) rfl ?_); refine gl (some 35) rfl rfl Tryz.func82 rfl #[.int .u64 a2, .int .i64 0, .int .i64 (wrap64 (8 * t179))] rfl ?_; (with_reducible refine (bits_Field.calls a2 0 (wrap64 (8 * t179)) t183 _ A12.out).mono ?_); rintro e w' ⟨rfl, ⟨nd, rfl⟩⟩; refine ⟨_, rfl, ?_⟩) | ((with_reducible refine gate_callee (f := 82) rfl ?_); refine goesL_ (some 85) rfl rfl Tryz.func82 (by kernel_rfl) rfl #[.int .u64 ji28, .int .i64 0, .int .i64 (wrap64 (8 * t179))] rfl (by (try simp only [List.map_toArray, List.map_cons, List.map_nil]); first | done | (simp only [hji28]; rfl) | rfl | (simp only [List.length_drop, List.length_take]; rfl)) ?_; (with_reducible refine (bits_Field.calls ji28 0 (wrap64 (8 * t179)) t190 _ A29.out).mono ?_); rintro e w' ⟨rfl, ⟨nd, rfl⟩⟩; refine ⟨_, rfl, ?_⟩))
           go_ret
           exact ⟨by first | rfl | (simp [errW_none, errW_some] <;> rfl) | (simp only [← hji28]; first | rfl | (simp [errW_none, errW_some] <;> rfl)) | (simp [*, errW_none, errW_some] <;> rfl), bb HB⟩
          ·rw [if_neg c27] at H
           obtain ⟨c27b0, c27b1⟩ := bqf c27
           by_cases c30 : x8_6 = 76
           ·rw [if_pos c30] at H
            obtain ⟨c30b0, c30b1⟩ := bqt c30
            clear c30
            obtain ⟨ji31, hji31⟩ : ∃ j_ : Int, (mx t182 t183) = j_ := ⟨_, rfl⟩
            replace H : ((bits_Field.f (ji31) 0 (wrap64 (8 * t179))).bind fun t191 => (some t191)) = some r := by first | (rw [hji31] at H; exact H) | (simp only [hji31] at H ⊢; exact H)
            (try rw [hji31] at A9)
            (try rw [hji31] at A10)
            (try rw [hji31] at A11)
            (try rw [hji31] at A12)
            have hji31_ : (if t182 < t183 then t183 else t182) = ji31 := hji31
            replace H := Option.bind_eq_some_iff.mp H
            obtain ⟨t191, A320, H⟩ := H
            replace H : (some t191) = some r := H
            have A32 := am A320
            clear A320
            obtain rfl := Option.some.inj H
            go_wp2_with (first | ((with_reducible refine gate_callee (f := 58) rfl ?_); refine gl (some 26) rfl rfl Tryz.func58 rfl #[.int .u64 a1, .int .i64 (wrap64 (8 * t179))] rfl ?_; (with_reducible refine (bits_Sign.calls a1 (wrap64 (8 * t179)) t180 _ A9.out).mono ?_); rintro e w' ⟨rfl, ⟨nd, rfl⟩⟩; refine ⟨_, rfl, ?_⟩) | ((with_reducible refine gate_callee (f := 58) rfl ?_); refine gl (some 29) rfl rfl Tryz.func58 rfl #[.int .u64 a2, .int .i64 (wrap64 (8 * t179))] rfl ?_; (with_reducible refine (bits_Sign.calls a2 (wrap64 (8 * t179)) t181 _ A10.out).mono ?_); rintro e w' ⟨rfl, ⟨nd, rfl⟩⟩; refine ⟨_, rfl, ?_⟩) | ((with_reducible refine gate_callee (f := 82) rfl ?_); refine gl (some 32) rfl rfl Tryz.func82 rfl #[.int .u64 a1, .int .i64 0, .int .i64 (wrap64 (8 * t179))] rfl ?_; (with_reducible refine (bits_Field.calls a1 0 (wrap64 (8 * t179)) t182 _ A11.out).mono ?_); rintro e w' ⟨rfl, ⟨nd, rfl⟩⟩; refine ⟨_, rfl, ?_⟩) | ((with_reducible refine gate_callee (f := 82) rfl ?_); refine gl (some 35) rfl rfl Tryz.func82 rfl #[.int .u64 a2, .int .i64 0, .int .i64 (wrap64 (8 * t179))] rfl ?_; (with_reducible refine (bits_Field.calls a2 0 (wrap64 (8 * t179)) t183 _ A12.out).mono ?_); rintro e w' ⟨rfl, ⟨nd, rfl⟩⟩; refine ⟨_, rfl, ?_⟩) | ((with_reducible refine gate_callee (f := 82) rfl ?_); refine goesL_ (some 85) rfl rfl Tryz.func82 (by kernel_rfl) rfl #[.int .u64 ji31, .int .i64 0, .int .i64 (wrap64 (8 * t179))] rfl (by (try simp only [List.map_toArray, List.map_cons, List.map_nil]); first | done | (simp only [hji31]; rfl) | rfl | (simp only [List.length_drop, List.length_take]; rfl)) ?_; (with_reducible refine (bits_Field.calls ji31 0 (wrap64 (8 * t179)) t191 _ A32.out).mono ?_); rintro e w' ⟨rfl, ⟨nd, rfl⟩⟩; refine ⟨_, rfl, ?_⟩))
            go_ret
            exact ⟨by first | rfl | (simp [errW_none, errW_some] <;> rfl) | (simp only [← hji31]; first | rfl | (simp [errW_none, errW_some] <;> rfl)) | (simp [*, errW_none, errW_some] <;> rfl), bb HB⟩
           ·rw [if_neg c30] at H
            obtain ⟨c30b0, c30b1⟩ := bqf c30
            replace H := Option.bind_eq_some_iff.mp H
            obtain ⟨t192, A330, H⟩ := H
            replace H : (some t192) = some r := H
            have A33 := am A330
            clear A330
            obtain rfl := Option.some.inj H
            go_wp2_with (first | ((with_reducible refine gate_callee (f := 58) rfl ?_); refine gl (some 26) rfl rfl Tryz.func58 rfl #[.int .u64 a1, .int .i64 (wrap64 (8 * t179))] rfl ?_; (with_reducible refine (bits_Sign.calls a1 (wrap64 (8 * t179)) t180 _ A9.out).mono ?_); rintro e w' ⟨rfl, ⟨nd, rfl⟩⟩; refine ⟨_, rfl, ?_⟩) | ((with_reducible refine gate_callee (f := 58) rfl ?_); refine gl (some 29) rfl rfl Tryz.func58 rfl #[.int .u64 a2, .int .i64 (wrap64 (8 * t179))] rfl ?_; (with_reducible refine (bits_Sign.calls a2 (wrap64 (8 * t179)) t181 _ A10.out).mono ?_); rintro e w' ⟨rfl, ⟨nd, rfl⟩⟩; refine ⟨_, rfl, ?_⟩) | ((with_reducible refine gate_callee (f := 82) rfl ?_); refine gl (some 32) rfl rfl Tryz.func82 rfl #[.int .u64 a1, .int .i64 0, .int .i64 (wrap64 (8 * t179))] rfl ?_; (with_reducible refine (bits_Field.calls a1 0 (wrap64 (8 * t179)) t182 _ A11.out).mono ?_); rintro e w' ⟨rfl, ⟨nd, rfl⟩⟩; refine ⟨_, rfl, ?_⟩) | ((with_reducible refine gate_callee (f := 82) rfl ?_); refine gl (some 35) rfl rfl Tryz.func82 rfl #[.int .u64 a2, .int .i64 0, .int .i64 (wrap64 (8 * t179))] rfl ?_; (with_reducible refine (bits_Field.calls a2 0 (wrap64 (8 * t179)) t183 _ A12.out).mono ?_); rintro e w' ⟨rfl, ⟨nd, rfl⟩⟩; refine ⟨_, rfl, ?_⟩) | ((with_reducible refine gate_callee (f := 82) rfl ?_); refine gl (some 85) rfl rfl Tryz.func82 rfl #[.int .u64 t181, .int .i64 0, .int .i64 (wrap64 (8 * t179))] rfl ?_; (with_reducible refine (bits_Field.calls t181 0 (wrap64 (8 * t179)) t192 _ A33.out).mono ?_); rintro e w' ⟨rfl, ⟨nd, rfl⟩⟩; refine ⟨_, rfl, ?_⟩))
            go_ret
            exact ⟨fe, bb HB⟩
 ·replace c5 := Bool.eq_false_iff.mpr c5
  subst c5
  rw [if_neg ff] at H
  obtain rfl := Option.some.inj H
  go_enter Tryz.func51, Tryz.ntmps51
  go_wp2_with (first | ((with_reducible refine gate_callee (f := 53) rfl ?_); refine gl (some 14) rfl rfl Tryz.func53 rfl #[.int .i64 a0] rfl ?_; (with_reducible refine (inst_Stores.calls a0 false _ A4.out).mono ?_); rintro e w' ⟨rfl, ⟨nd, rfl⟩⟩; refine ⟨_, rfl, ?_⟩))
  go_ret
  exact ⟨fe, bb HB⟩
def inst_Loads0.f (a0 : Int) : Option (Bool) := if a0 ≥ 11 then (if a0 ≤ 17 then (some true) else ((inst_Atomic.f a0).bind fun t193 => (if t193 = true then (if a0 = 67 then (some false) else (some (a0 != 78))) else (some false)))) else ((inst_Atomic.f a0).bind fun t194 => (if t194 = true then (if a0 = 67 then (some false) else (some (a0 != 78))) else (some false)))
set_option maxHeartbeats 8000000 in
set_option maxRecDepth 100000 in
theorem inst_Loads0.calls (a0 : Int) (r : Bool) (w : World) (h : inst_Loads0.f a0 = some r) :
  Calls Tryz.prog 52 #[.int .i64 a0] w fun e w' => e = .returned (.bool r) ∧ Drawn0 w w' := by
 have H := h
 clear h
 unfold inst_Loads0.f at H
 by_cases c2 : a0 ≥ 11
 ·rw [if_pos c2] at H
  have c2b0 : decide (11 ≤ a0) = true := decide_eq_true c2
  clear c2
  by_cases c3 : a0 ≤ 17
  ·rw [if_pos c3] at H
   have c3b0 : decide (a0 ≤ 17) = true := decide_eq_true c3
   clear c3
   obtain rfl := Option.some.inj H
   go_enter Tryz.func52, Tryz.ntmps52
   go_wp2
   go_ret
   exact fd
  ·rw [if_neg c3] at H
   have c3b0 : decide (a0 ≤ 17) = false := decide_eq_false c3
   clear c3
   obtain ⟨t193, A4, H⟩ := bam H
   try dsimp only at H
   by_cases c5 : t193 = true
   ·subst c5
    rw [if_pos rfl] at H
    by_cases c6 : a0 = 67
    ·rw [if_pos c6] at H
     obtain ⟨c6b0, c6b1⟩ := bqt c6
     clear c6
     obtain rfl := Option.some.inj H
     go_enter Tryz.func52, Tryz.ntmps52
     go_wp2_with (first | (go_at_call 49; (with_reducible refine (inst_Atomic.calls a0 true _ A4.out).mono ?_); rintro e w' ⟨rfl, ⟨nd, rfl⟩⟩))
     go_ret
     exact fd
    ·rw [if_neg c6] at H
     obtain ⟨c6b0, c6b1⟩ := bqf c6
     obtain rfl := Option.some.inj H
     go_enter Tryz.func52, Tryz.ntmps52
     go_wp2_with (first | (go_at_call 49; (with_reducible refine (inst_Atomic.calls a0 true _ A4.out).mono ?_); rintro e w' ⟨rfl, ⟨nd, rfl⟩⟩))
     go_ret
     exact fd
   ·replace c5 := Bool.eq_false_iff.mpr c5
    subst c5
    rw [if_neg ff] at H
    obtain rfl := Option.some.inj H
    go_enter Tryz.func52, Tryz.ntmps52
    go_wp2_with (first | (go_at_call 49; (with_reducible refine (inst_Atomic.calls a0 false _ A4.out).mono ?_); rintro e w' ⟨rfl, ⟨nd, rfl⟩⟩))
    go_ret
    exact fd
 ·rw [if_neg c2] at H
  have c2b0 : decide (11 ≤ a0) = false := decide_eq_false c2
  clear c2
  obtain ⟨t194, A7, H⟩ := bam H
  try dsimp only at H
  by_cases c8 : t194 = true
  ·subst c8
   rw [if_pos rfl] at H
   by_cases c9 : a0 = 67
   ·rw [if_pos c9] at H
    obtain ⟨c9b0, c9b1⟩ := bqt c9
    clear c9
    obtain rfl := Option.some.inj H
    go_enter Tryz.func52, Tryz.ntmps52
    go_wp2_with (first | (go_at_call 49; (with_reducible refine (inst_Atomic.calls a0 true _ A7.out).mono ?_); rintro e w' ⟨rfl, ⟨nd, rfl⟩⟩))
    go_ret
    exact fd
   ·rw [if_neg c9] at H
    obtain ⟨c9b0, c9b1⟩ := bqf c9
    obtain rfl := Option.some.inj H
    go_enter Tryz.func52, Tryz.ntmps52
    go_wp2_with (first | (go_at_call 49; (with_reducible refine (inst_Atomic.calls a0 true _ A7.out).mono ?_); rintro e w' ⟨rfl, ⟨nd, rfl⟩⟩))
    go_ret
    exact fd
  ·replace c8 := Bool.eq_false_iff.mpr c8
   subst c8
   rw [if_neg ff] at H
   obtain rfl := Option.some.inj H
   go_enter Tryz.func52, Tryz.ntmps52
   go_wp2_with (first | (go_at_call 49; (with_reducible refine (inst_Atomic.calls a0 false _ A7.out).mono ?_); rintro e w' ⟨rfl, ⟨nd, rfl⟩⟩))
   go_ret
   exact fd
def inst_Loads.f (a0 : Int) : Option (Bool) := some (loadsB a0)
theorem inst_Loads.spec (a0 : Int) (r : Bool) (h : inst_Loads.f a0 = some r) : inst_Loads0.f a0 = some r := by
 rw [← h]; unfold inst_Loads.f loadsB
 by_cases h1 : 11 ≤ a0 <;> by_cases h2 : a0 ≤ 17 <;> by_cases h3 : 66 ≤ a0 <;> by_cases h4 : a0 ≤ 87 <;> by_cases h5 : a0 = 67 <;> by_cases h6 : a0 = 78 <;> first | omega | (simp [inst_Loads0.f, inst_Atomic.f, atomicB, *]; done) | (subst_vars; decide +kernel)
theorem inst_Loads.calls (a0 : Int) (r : Bool) (w : World) (h : inst_Loads.f a0 = some r) :
  Calls Tryz.prog 52 #[.int .i64 a0] w fun e w' => e = .returned (.bool r) ∧ Drawn0 w w' := by
 have hk := inst_Loads.spec a0 r h
 exact inst_Loads0.calls a0 r w hk
def alu_Loaded.j0 : Nat → Int → Int → Bool → Option (Int)
 | 0, _, _, _ => none
 | k + 1, x1, x5, x13 => if x13 = true then ((bits_Field.f x1 0 x5).bind fun t197 => (some t197)) else ((bits_Sign.f x1 x5).bind fun t198 => (some t198))
def alu_Loaded.f (k : Nat) (a0 : Int) (a1 : Int) : Option (Int) := (inst_Size.f a0).bind fun t195 => ((inst_Loads.f a0).bind fun t196 => (if t196 = true then (if a0 ≥ 15 then (alu_Loaded.j0 k a1 (wrap64 (8 * t195)) (decide (a0 ≤ 17))) else (alu_Loaded.j0 k a1 (wrap64 (8 * t195)) false)) else (some 0)))
theorem alu_Loaded.mono_l : ∀ k, (∀ y0 y1 y2, LeO (alu_Loaded.j0 k y0 y1 y2) (alu_Loaded.j0 (k + 1) y0 y1 y2))
 | 0 => fun _ _ _ r h => by simp [alu_Loaded.j0] at h
 | k + 1 => by
  have ih0 := alu_Loaded.mono_l k
  ·intro y0 y1 y2
   unfold alu_Loaded.j0
   exact leo
theorem alu_Loaded.mono : ∀ a0 a1 k, LeO (alu_Loaded.f k a0 a1) (alu_Loaded.f (k + 1) a0 a1) := by
 intro a0 a1 k
 have ih0 := alu_Loaded.mono_l k
 unfold alu_Loaded.f
 exact leo
set_option maxHeartbeats 8000000 in
set_option maxRecDepth 100000 in
theorem alu_Loaded.calls (k : Nat) (a0 : Int) (a1 : Int) (r : Int) (w : World) (h : alu_Loaded.f k a0 a1 = some r) :
  Calls Tryz.prog 54 #[.int .i64 a0, .int .u64 a1] w fun e w' => e = .returned (.int .u64 r) ∧ Drawn0 w w' := by
 have H := h
 clear h
 unfold alu_Loaded.f at H
 obtain ⟨t195, A3, H⟩ := bam H
 try dsimp only at H
 obtain ⟨t196, A4, H⟩ := bam H
 try dsimp only at H
 by_cases c5 : t196 = true
 ·subst c5
  rw [if_pos rfl] at H
  have HC6 := am H
  clear H
  go_enter Tryz.func54, Tryz.ntmps54
  go_upto_region 4 with (first | ((with_reducible refine gate_callee (f := 26) rfl ?_); refine gl (some 7) rfl rfl Tryz.func26 rfl #[.int .i64 a0] rfl ?_; (with_reducible refine (inst_Size.calls a0 t195 _ A3.out).mono ?_); rintro e w' ⟨rfl, ⟨nd, rfl⟩⟩; refine ⟨_, rfl, ?_⟩) | ((with_reducible refine gate_callee (f := 52) rfl ?_); refine gl (some 11) rfl rfl Tryz.func52 rfl #[.int .i64 a0] rfl ?_; (with_reducible refine (inst_Loads.calls a0 true _ A4.out).mono ?_); rintro e w' ⟨rfl, ⟨nd, rfl⟩⟩; refine ⟨_, rfl, ?_⟩))
  (try simp only [Act.put, List.setIfInBounds_toArray, List.set_cons_zero, List.set_cons_succ])
  go_cut [13] (fun v13 wc => ∃ (kq : Nat) (x13_5 : Bool), v13 = .bool x13_5 ∧ Aside0 (alu_Loaded.j0 kq a1 (wrap64 (8 * t195)) x13_5 = some r) ∧ Aside0 (kq ≤ k) ∧ Drawn0 w wc)
  case first =>
   have H := HC6.out
   clear HC6
   by_cases c7 : a0 ≥ 15
   ·rw [if_pos c7] at H
    have c7b0 : decide (15 ≤ a0) = true := decide_eq_true c7
    clear c7
    (first | rw [c7b0] | (simp only [i64_w, i32_w]; rw [c7b0]) | skip)
    have H' := am H
    clear H
    go_wp2
    go_meet
    case rel => exact ⟨_, (decide (a0 ≤ 17)), fr, H', ⟨om⟩, dd⟩
   ·rw [if_neg c7] at H
    have c7b0 : decide (15 ≤ a0) = false := decide_eq_false c7
    clear c7
    (first | rw [c7b0] | (simp only [i64_w, i32_w]; rw [c7b0]) | skip)
    have H' := am H
    clear H
    go_wp2
    go_meet
    case rel => exact ⟨_, (false), fr, H', ⟨om⟩, dd⟩
  case rest =>
   clear HC6
   try clear c2
   try clear p2
   try clear c5
   try clear p6
   try clear c7
   try clear c7b0
   obtain ⟨kq, x13_5, rfl, HA, HJ5, ⟨mc5, rfl⟩⟩ := hcut
   cases kq with
   | zero => exact absurd HA.out (by simp [alu_Loaded.j0])
   | succ kj5 =>
    have H := HA.out
    clear HA
    simp only [alu_Loaded.j0] at H
    by_cases c8 : x13_5 = true
    ·subst c8
     rw [if_pos rfl] at H
     replace H := Option.bind_eq_some_iff.mp H
     obtain ⟨t197, A90, H⟩ := H
     replace H : (some t197) = some r := H
     have A9 := am A90
     clear A90
     obtain rfl := Option.some.inj H
     go_wp2_with (first | ((with_reducible refine gate_callee (f := 82) rfl ?_); refine gl (some 22) rfl rfl Tryz.func82 rfl #[.int .u64 a1, .int .i64 0, .int .i64 (wrap64 (8 * t195))] rfl ?_; (with_reducible refine (bits_Field.calls a1 0 (wrap64 (8 * t195)) t197 _ A9.out).mono ?_); rintro e w' ⟨rfl, ⟨nd, rfl⟩⟩; refine ⟨_, rfl, ?_⟩))
     go_ret
     exact fd
    ·replace c8 := Bool.eq_false_iff.mpr c8
     subst c8
     rw [if_neg ff] at H
     replace H := Option.bind_eq_some_iff.mp H
     obtain ⟨t198, A100, H⟩ := H
     replace H : (some t198) = some r := H
     have A10 := am A100
     clear A100
     obtain rfl := Option.some.inj H
     go_wp2_with (first | ((with_reducible refine gate_callee (f := 58) rfl ?_); refine gl (some 25) rfl rfl Tryz.func58 rfl #[.int .u64 a1, .int .i64 (wrap64 (8 * t195))] rfl ?_; (with_reducible refine (bits_Sign.calls a1 (wrap64 (8 * t195)) t198 _ A10.out).mono ?_); rintro e w' ⟨rfl, ⟨nd, rfl⟩⟩; refine ⟨_, rfl, ?_⟩))
     go_ret
     exact fd
 ·replace c5 := Bool.eq_false_iff.mpr c5
  subst c5
  rw [if_neg ff] at H
  obtain rfl := Option.some.inj H
  go_enter Tryz.func54, Tryz.ntmps54
  go_wp2_with (first | ((with_reducible refine gate_callee (f := 26) rfl ?_); refine gl (some 7) rfl rfl Tryz.func26 rfl #[.int .i64 a0] rfl ?_; (with_reducible refine (inst_Size.calls a0 t195 _ A3.out).mono ?_); rintro e w' ⟨rfl, ⟨nd, rfl⟩⟩; refine ⟨_, rfl, ?_⟩) | ((with_reducible refine gate_callee (f := 52) rfl ?_); refine gl (some 11) rfl rfl Tryz.func52 rfl #[.int .i64 a0] rfl ?_; (with_reducible refine (inst_Loads.calls a0 false _ A4.out).mono ?_); rintro e w' ⟨rfl, ⟨nd, rfl⟩⟩; refine ⟨_, rfl, ?_⟩))
  go_ret
  exact fd
end Go.Proofs.YtcjfafhbohkhlaaGreat.PAll
