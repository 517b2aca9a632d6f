/- DERIVED. Printed contracts of functions. -/
import Derived.Test.YtcjfafhbohkhlaaGreatPAllx0
import Derived.Test.YtcjfafhbohkhlaaGreatPAllx2
import Derived.Test.YtcjfafhbohkhlaaGreatPAllx6
namespace Go.Proofs.YtcjfafhbohkhlaaGreat.PAll
open Go.RowKit Go.Proofs.YtcjfafhbohkhlaaGreatW.PrintWords Go.Proofs.YtcjfafhbohkhlaaGreatW.PrintLast Go.Proofs.YtcjfafhbohkhlaaGreatW.PrintMore Go.Proofs.YtcjfafhbohkhlaaGreat.M
attribute [local go_sem] max2_int min2_int max_two min_two max_three min_three max_four min_four
set_option linter.unusedVariables false
set_option linter.unusedSimpArgs false
-- NOT PRINTED: function 27 (hart_touch)
def alu_imm.f (a0 : Int) : Option (Bool) := if a0 ≥ 22 then (if a0 ≤ 30 then (some true) else (if a0 ≥ 41 then (some (decide (a0 ≤ 44))) else (some false))) else (if a0 ≥ 41 then (some (decide (a0 ≤ 44))) else (some false))
set_option maxHeartbeats 8000000 in
set_option maxRecDepth 100000 in
theorem alu_imm.calls (a0 : Int) (r : Bool) (w : World) (h : alu_imm.f a0 = some r) :
  Calls Tryz.prog 55 #[.int .i64 a0] w fun e w' => e = .returned (.bool r) ∧ Drawn0 w w' := by
 have H := h
 clear h
 unfold alu_imm.f at H
 by_cases c2 : a0 ≥ 22
 ·rw [if_pos c2] at H
  have c2b0 : decide (22 ≤ a0) = true := decide_eq_true c2
  clear c2
  by_cases c3 : a0 ≤ 30
  ·rw [if_pos c3] at H
   have c3b0 : decide (a0 ≤ 30) = true := decide_eq_true c3
   clear c3
   obtain rfl := Option.some.inj H
   go_enter Tryz.func55, Tryz.ntmps55
   go_wp2
   go_ret
   exact fd
  ·rw [if_neg c3] at H
   have c3b0 : decide (a0 ≤ 30) = false := decide_eq_false c3
   clear c3
   by_cases c4 : a0 ≥ 41
   ·rw [if_pos c4] at H
    have c4b0 : decide (41 ≤ a0) = true := decide_eq_true c4
    clear c4
    obtain rfl := Option.some.inj H
    go_enter Tryz.func55, Tryz.ntmps55
    go_wp2
    go_ret
    exact fd
   ·rw [if_neg c4] at H
    have c4b0 : decide (41 ≤ a0) = false := decide_eq_false c4
    clear c4
    obtain rfl := Option.some.inj H
    go_enter Tryz.func55, Tryz.ntmps55
    go_wp2
    go_ret
    exact fd
 ·rw [if_neg c2] at H
  have c2b0 : decide (22 ≤ a0) = false := decide_eq_false c2
  clear c2
  by_cases c5 : a0 ≥ 41
  ·rw [if_pos c5] at H
   have c5b0 : decide (41 ≤ a0) = true := decide_eq_true c5
   clear c5
   obtain rfl := Option.some.inj H
   go_enter Tryz.func55, Tryz.ntmps55
   go_wp2
   go_ret
   exact fd
  ·rw [if_neg c5] at H
   have c5b0 : decide (41 ≤ a0) = false := decide_eq_false c5
   clear c5
   obtain rfl := Option.some.inj H
   go_enter Tryz.func55, Tryz.ntmps55
   go_wp2
   go_ret
   exact fd
def alu_short.f (a0 : Int) : Option (Bool) := if a0 ≥ 41 then (if a0 ≤ 49 then (some true) else (if a0 ≥ 61 then (some (decide (a0 ≤ 65))) else (some false))) else (if a0 ≥ 61 then (some (decide (a0 ≤ 65))) else (some false))
set_option maxHeartbeats 8000000 in
set_option maxRecDepth 100000 in
theorem alu_short.calls (a0 : Int) (r : Bool) (w : World) (h : alu_short.f a0 = some r) :
  Calls Tryz.prog 56 #[.int .i64 a0] w fun e w' => e = .returned (.bool r) ∧ Drawn0 w w' := by
 have H := h
 clear h
 unfold alu_short.f at H
 by_cases c2 : a0 ≥ 41
 ·rw [if_pos c2] at H
  have c2b0 : decide (41 ≤ a0) = true := decide_eq_true c2
  clear c2
  by_cases c3 : a0 ≤ 49
  ·rw [if_pos c3] at H
   have c3b0 : decide (a0 ≤ 49) = true := decide_eq_true c3
   clear c3
   obtain rfl := Option.some.inj H
   go_enter Tryz.func56, Tryz.ntmps56
   go_wp2
   go_ret
   exact fd
  ·rw [if_neg c3] at H
   have c3b0 : decide (a0 ≤ 49) = false := decide_eq_false c3
   clear c3
   by_cases c4 : a0 ≥ 61
   ·rw [if_pos c4] at H
    have c4b0 : decide (61 ≤ a0) = true := decide_eq_true c4
    clear c4
    obtain rfl := Option.some.inj H
    go_enter Tryz.func56, Tryz.ntmps56
    go_wp2
    go_ret
    exact fd
   ·rw [if_neg c4] at H
    have c4b0 : decide (61 ≤ a0) = false := decide_eq_false c4
    clear c4
    obtain rfl := Option.some.inj H
    go_enter Tryz.func56, Tryz.ntmps56
    go_wp2
    go_ret
    exact fd
 ·rw [if_neg c2] at H
  have c2b0 : decide (41 ≤ a0) = false := decide_eq_false c2
  clear c2
  by_cases c5 : a0 ≥ 61
  ·rw [if_pos c5] at H
   have c5b0 : decide (61 ≤ a0) = true := decide_eq_true c5
   clear c5
   obtain rfl := Option.some.inj H
   go_enter Tryz.func56, Tryz.ntmps56
   go_wp2
   go_ret
   exact fd
  ·rw [if_neg c5] at H
   have c5b0 : decide (61 ≤ a0) = false := decide_eq_false c5
   clear c5
   obtain rfl := Option.some.inj H
   go_enter Tryz.func56, Tryz.ntmps56
   go_wp2
   go_ret
   exact fd
def alu_two_sum.f (a0_0 : Int) (a0_1 : Int) (a0_2 : Int) : Option (Int) := some (IntKind.u64.wrap (a0_0 + a0_1))
set_option maxHeartbeats 8000000 in
set_option maxRecDepth 100000 in
theorem alu_two_sum.calls (a0_0 : Int) (a0_1 : Int) (a0_2 : Int) (r : Int) (w : World) (h : alu_two_sum.f a0_0 a0_1 a0_2 = some r) :
  Calls Tryz.prog 84 #[.agg #[.int .u64 a0_0, .int .u64 a0_1, .int .i64 a0_2]] w fun e w' => e = .returned (.int .u64 r) ∧ Below w.heap.size w w' := by
 have hu104 := Tryz.underlying104
 have HB := am (Below.refl w.heap.size w)
 have H := h
 clear h
 unfold alu_two_sum.f at H
 obtain rfl := Option.some.inj H
 go_enter Tryz.func84, Tryz.ntmps84
 go_wp2_with (first | ((with_reducible refine gate_dst (N := 1) rfl ?_); refine be 1 104 #[.int .u64 a0_0, .int .u64 a0_1, .int .i64 a0_2] ?_; intro gb199 hg w2 hbox hb; have BK199 := am hbox; have GW199 := bz HB hg; have GE199 := bz HB hg; replace HB := bn HB hb; clear hb hbox hg; obtain ⟨z3_0, z3_1, z3_2, f3_0, f3_1, f3_2⟩ := cf3 BK199))
 go_ret
 exact ⟨fe, bs HB GE199⟩
def alu_two_less.f (a0_0 : Int) (a0_1 : Int) (a0_2 : Int) : Option (Int) := some (IntKind.u64.wrap (a0_0 - a0_1))
set_option maxHeartbeats 8000000 in
set_option maxRecDepth 100000 in
theorem alu_two_less.calls (a0_0 : Int) (a0_1 : Int) (a0_2 : Int) (r : Int) (w : World) (h : alu_two_less.f a0_0 a0_1 a0_2 = some r) :
  Calls Tryz.prog 85 #[.agg #[.int .u64 a0_0, .int .u64 a0_1, .int .i64 a0_2]] w fun e w' => e = .returned (.int .u64 r) ∧ Below w.heap.size w w' := by
 have hu104 := Tryz.underlying104
 have HB := am (Below.refl w.heap.size w)
 have H := h
 clear h
 unfold alu_two_less.f at H
 obtain rfl := Option.some.inj H
 go_enter Tryz.func85, Tryz.ntmps85
 go_wp2_with (first | ((with_reducible refine gate_dst (N := 1) rfl ?_); refine be 1 104 #[.int .u64 a0_0, .int .u64 a0_1, .int .i64 a0_2] ?_; intro gb200 hg w2 hbox hb; have BK200 := am hbox; have GW200 := bz HB hg; have GE200 := bz HB hg; replace HB := bn HB hb; clear hb hbox hg; obtain ⟨z3_0, z3_1, z3_2, f3_0, f3_1, f3_2⟩ := cf3 BK200))
 go_ret
 exact ⟨fe, bs HB GE200⟩
def alu_two_shift0.f (a0_0 : Int) (a0_1 : Int) (a0_2 : Int) : Option (Int) := some (Go.bits .and .i64 (wrap64 (a0_1)) (wrap64 (a0_2 - 1)))
set_option maxHeartbeats 8000000 in
set_option maxRecDepth 100000 in
theorem alu_two_shift0.calls (a0_0 : Int) (a0_1 : Int) (a0_2 : Int) (r : Int) (w : World) (h : alu_two_shift0.f a0_0 a0_1 a0_2 = some r) :
  Calls Tryz.prog 113 #[.agg #[.int .u64 a0_0, .int .u64 a0_1, .int .i64 a0_2]] w fun e w' => e = .returned (.int .i64 r) ∧ Below w.heap.size w w' := by
 have hu104 := Tryz.underlying104
 have HB := am (Below.refl w.heap.size w)
 have H := h
 clear h
 unfold alu_two_shift0.f at H
 obtain rfl := Option.some.inj H
 go_enter Tryz.func113, Tryz.ntmps113
 go_wp2_with (first | ((with_reducible refine gate_dst (N := 1) rfl ?_); refine be 1 104 #[.int .u64 a0_0, .int .u64 a0_1, .int .i64 a0_2] ?_; intro gb201 hg w2 hbox hb; have BK201 := am hbox; have GW201 := bz HB hg; have GE201 := bz HB hg; replace HB := bn HB hb; clear hb hbox hg; obtain ⟨z3_0, z3_1, z3_2, f3_0, f3_1, f3_2⟩ := cf3 BK201))
 go_ret
 exact ⟨fe, bs HB GE201⟩
def alu_two_shift.f (a0_0 : Int) (a0_1 : Int) (a0_2 : Int) : Option (Int) := if U64 a0_1 ∧ (a0_2 = 64 ∨ a0_2 = 32) then some (a0_1 % a0_2) else none
theorem and_i64 (x : Int) (hx : I64 x) (m : Nat) (hm : m ≤ 62) : Go.bits .and .i64 x (2 ^ m - 1) = x % 2 ^ m := by
 have hp := ipos m
 have hle := ipow_le m 62 hm
 have e : Go.bits .and .i64 x (2 ^ m - 1) = IntKind.i64.wrap (((BitVec.ofInt 64 x) &&& (BitVec.ofInt 64 (2 ^ m - 1))).toNat : Int) := rfl
 rw [e, BitVec.toNat_and, BitVec.toNat_ofInt, BitVec.toNat_ofInt]
 have e2 : ((2 ^ m - 1 : Int) % ((2 ^ 64 : Nat) : Int)).toNat = 2 ^ m - 1 := by
  rw [Int.emod_eq_of_lt (by omega) (by have : ((2 ^ 64 : Nat) : Int) = 18446744073709551616 := rfl; omega)]
  rw [ipow]; have := Nat.two_pow_pos m; omega
 rw [e2, Nat.and_two_pow_sub_one_eq_mod]
 have e3 : (((x % ((2 ^ 64 : Nat) : Int)).toNat % 2 ^ m : Nat) : Int) = x % 2 ^ m := by
  have h0 : 0 ≤ x % ((2 ^ 64 : Nat) : Int) := Int.emod_nonneg _ (by decide)
  rw [Int.natCast_emod, Int.toNat_of_nonneg h0]
  have hs : ((2 ^ 64 : Nat) : Int) = 2 ^ m * 2 ^ (64 - m) := by rw [← Int.pow_add, show m + (64 - m) = 64 by omega]; rfl
  rw [hs, ← ipow, Int.emod_emod_of_dvd _ (Int.dvd_mul_right _ _)]
 rw [e3, IntKind.wrap_i64]
 have b0 : 0 ≤ x % 2 ^ m := Int.emod_nonneg _ (Int.ne_of_gt hp)
 have b1 : x % 2 ^ m < 2 ^ m := Int.emod_lt_of_pos _ hp
 omega
theorem alu_two_shift.spec (a0_0 a0_1 a0_2 r : Int) (h : alu_two_shift.f a0_0 a0_1 a0_2 = some r) : alu_two_shift0.f a0_0 a0_1 a0_2 = some r := by
 unfold alu_two_shift.f at h
 by_cases hc : U64 a0_1 ∧ (a0_2 = 64 ∨ a0_2 = 32)
 ·rw [if_pos hc] at h; obtain rfl := Option.some.inj h
  unfold alu_two_shift0.f
  obtain ⟨hU, rfl | rfl⟩ := hc
  ·rw [show wrap64 (64 - 1) = 2 ^ 6 - 1 by unfold wrap64; omega, and_i64 _ (I64.wrap _) 6 (by omega)]
   congr 1; unfold wrap64; omega
  ·rw [show wrap64 (32 - 1) = 2 ^ 5 - 1 by unfold wrap64; omega, and_i64 _ (I64.wrap _) 5 (by omega)]
   congr 1; unfold wrap64; omega
 ·rw [if_neg hc] at h; simp at h
theorem alu_two_shift.calls (a0_0 : Int) (a0_1 : Int) (a0_2 : Int) (r : Int) (w : World) (h : alu_two_shift.f a0_0 a0_1 a0_2 = some r) :
  Calls Tryz.prog 113 #[.agg #[.int .u64 a0_0, .int .u64 a0_1, .int .i64 a0_2]] w fun e w' => e = .returned (.int .i64 r) ∧ Below w.heap.size w w' := by
 have hk := alu_two_shift.spec a0_0 a0_1 a0_2 r h
 exact alu_two_shift0.calls a0_0 a0_1 a0_2 r w hk
def alu_two_left0.f (a0_0 : Int) (a0_1 : Int) (a0_2 : Int) : Option (Int) := (alu_two_shift.f a0_0 a0_1 a0_2).bind fun t203 => (if 0 ≤ t203 then (some (shl .u64 a0_0 t203)) else (none))
set_option maxHeartbeats 8000000 in
set_option maxRecDepth 100000 in
theorem alu_two_left0.calls (a0_0 : Int) (a0_1 : Int) (a0_2 : Int) (r : Int) (w : World) (h : alu_two_left0.f a0_0 a0_1 a0_2 = some r) :
  Calls Tryz.prog 86 #[.agg #[.int .u64 a0_0, .int .u64 a0_1, .int .i64 a0_2]] w fun e w' => e = .returned (.int .u64 r) ∧ Below w.heap.size w w' := by
 have hu104 := Tryz.underlying104
 have HB := am (Below.refl w.heap.size w)
 have H := h
 clear h
 unfold alu_two_left0.f at H
 obtain ⟨t203, A2, H⟩ := bam H
 try dsimp only at H
 by_cases c3 : 0 ≤ t203
 ·rw [if_pos c3] at H
  have c3b0 := eq_true c3
  have c3b1 : decide (0 ≤ t203) = true := decide_eq_true c3
  clear c3
  obtain ⟨ji4, hji4⟩ : ∃ j_ : Int, (shl .u64 a0_0 t203) = j_ := ⟨_, rfl⟩
  replace H : (some ji4) = some r := by first | (rw [hji4] at H; exact H) | (simp only [hji4] at H ⊢; exact H)
  (try rw [hji4] at A2)
  have hji4_ : (IntKind.u64.wrap (a0_0 * 2 ^ min t203.toNat 64)) = ji4 := hji4
  have hji4z : t203 ≤ 64 → (IntKind.u64.wrap (a0_0 * 2 ^ t203.toNat)) = ji4 := shl_small hji4
  obtain rfl := Option.some.inj H
  go_enter Tryz.func86, Tryz.ntmps86
  try go_wp2_with (first | ((with_reducible refine gate_dst (N := 1) rfl ?_); refine be 1 104 #[.int .u64 a0_0, .int .u64 a0_1, .int .i64 a0_2] ?_; intro gb202 hg w5 hbox hb; have BK202 := am hbox; have GW202 := bz HB hg; have GE202 := bz HB hg; replace HB := bn HB hb; clear hb hbox hg))
  have n0_ := am (blk_drew BK202.out)
  have n1_ := am (below_drew1 HB.out)
  clear BK202
  clear HB
  have BK202 := n0_
  have HB := n1_
  clear n0_ n1_
  refine start_ (n := 6) (S := fun w' => w'.cell? ⟨gb202, 0, none⟩ = some (.int .u64 a0_0) ∧ w'.cell? ⟨gb202, 1, none⟩ = some (.int .u64 a0_1) ∧ w'.cell? ⟨gb202, 2, none⟩ = some (.int .i64 a0_2)) (ds := []) #[false, false, false, false, false, false] (by kernel_rfl) rfl rfl ⟨(blk_cell BK202.out 0).trans rfl, (blk_cell BK202.out 1).trans rfl, (blk_cell BK202.out 2).trans rfl⟩ (fun hHeld => ?_)
  generalize w5.drew = w6 at BK202 HB hHeld ⊢
  refine pure_ (i := 0) (N := some 3) (v := ?_) (a' := ?_) #[true, false, false, false, false, false] rfl rfl (by kernel_rfl) (fun _ _ _ h => h) (Or.inl ⟨by rfl, ?_⟩) ?_ ?_
  rotate_left
  ·intro w'
   go_simp
   with_reducible rfl
  rotate_left
  ·simp only [Act.put, List.setIfInBounds_toArray, List.set_cons_zero, List.set_cons_succ, i64_w, i32_w]
   rfl
  refine take_ (i := 1) (N := some 4) (v := ?_) (a' := ?_) #[true, true, false, false, false, false] rfl rfl (by kernel_rfl) (fun _ _ _ h => h) (Or.inl ⟨by rfl, ?_⟩) hHeld ?_ ?_
  rotate_left
  ·rintro w' ⟨s0, s1, s2⟩
   go_simp
   with_reducible rfl
  rotate_left
  ·simp only [Act.put, List.setIfInBounds_toArray, List.set_cons_zero, List.set_cons_succ, i64_w, i32_w]
   rfl
  refine take_ (i := 2) (N := some 5) (v := ?_) (a' := ?_) #[true, true, true, false, false, false] rfl rfl (by kernel_rfl) (fun _ _ _ h => h) (Or.inl ⟨by rfl, ?_⟩) hHeld ?_ ?_
  rotate_left
  ·rintro w' ⟨s0, s1, s2⟩
   go_simp
   with_reducible rfl
  rotate_left
  ·simp only [Act.put, List.setIfInBounds_toArray, List.set_cons_zero, List.set_cons_succ, i64_w, i32_w]
   rfl
  refine one_ (i := 3) (N := some 6) #[true, true, true, true, false, false] rfl rfl (by kernel_rfl) (by decide) (fun K hK => ?_)
  refine goes_ Tryz.func113 (by kernel_rfl) rfl #[.agg #[.int .u64 a0_0, .int .u64 a0_1, .int .i64 a0_2]] (by rfl) rfl rfl (by (try simp only [List.map_toArray, List.map_cons, List.map_nil]); first | done | rfl | (simp only [List.length_drop, List.length_take]; rfl)) ?_
  with_reducible refine (alu_two_shift.calls a0_0 a0_1 a0_2 t203 _ A2.out).mono ?_
  rintro e w7 ⟨rfl, hb⟩
  refine ⟨_, rfl, ?_⟩
  have n0_ := bk BK202 hb
  have n1_ := bns HB GE202 hb
  clear BK202
  clear HB
  have BK202 := n0_
  have HB := n1_
  clear n0_ n1_
  (try clear hb)
  (try clear hb2)
  (try clear hk)
  (try clear hi)
  refine hK.out _ _ ⟨(blk_cell BK202.out 0).trans rfl, (blk_cell BK202.out 1).trans rfl, (blk_cell BK202.out 2).trans rfl⟩ (fun hHeld => ?_)
  clear hK K
  refine norm_ (a' := ?_) ?_ ?_
  rotate_left
  ·show Act.put _ (some 6) _ = _
   simp only [Act.put, List.setIfInBounds_toArray, List.set_cons_zero, List.set_cons_succ, i64_w, i32_w]
   rfl
  refine pure_ (i := 4) (N := some 7) (v := ?_) (a' := ?_) #[true, true, true, true, true, false] rfl rfl (by kernel_rfl) (fun _ _ _ h => h) (Or.inl ⟨by rfl, ?_⟩) ?_ ?_
  rotate_left
  ·intro w'
   go_simp
   with_reducible rfl
  rotate_left
  ·simp only [Act.put, List.setIfInBounds_toArray, List.set_cons_zero, List.set_cons_succ, i64_w, i32_w]
   rfl
  refine pure_ (i := 5) (N := some 2) (v := ?_) (a' := ?_) #[true, true, true, true, true, true] rfl rfl (by kernel_rfl) (fun _ _ _ h => h) (Or.inl ⟨by rfl, ?_⟩) ?_ ?_
  rotate_left
  ·intro w'
   go_simp
   with_reducible rfl
  rotate_left
  ·simp only [Act.put, List.setIfInBounds_toArray, List.set_cons_zero, List.set_cons_succ, i64_w, i32_w]
   rfl
  refine done_ (by kernel_rfl) ?_
  try go_wp2
  go_ret
  exact ⟨by first | rfl | (simp [errW_none, errW_some] <;> rfl) | (simp only [← hji4]; first | rfl | (simp [errW_none, errW_some] <;> rfl)) | (simp [*, errW_none, errW_some] <;> rfl), bs HB GE202⟩
 ·rw [if_neg c3] at H
  exact absurd H (by simp)
def alu_two_left.f (a0_0 : Int) (a0_1 : Int) (a0_2 : Int) : Option (Int) := if U64 a0_1 ∧ (a0_2 = 64 ∨ a0_2 = 32) then some (IntKind.u64.wrap (a0_0 * 2 ^ (a0_1 % a0_2).toNat)) else none
theorem alu_two_left.spec (a0_0 a0_1 a0_2 r : Int) (h : alu_two_left.f a0_0 a0_1 a0_2 = some r) : alu_two_left0.f a0_0 a0_1 a0_2 = some r := by
 unfold alu_two_left.f at h
 by_cases hc : U64 a0_1 ∧ (a0_2 = 64 ∨ a0_2 = 32)
 ·rw [if_pos hc] at h; obtain rfl := Option.some.inj h
  unfold alu_two_left0.f alu_two_shift.f
  rw [if_pos hc]
  have b : 0 ≤ a0_1 % a0_2 ∧ a0_1 % a0_2 < 64 := by obtain ⟨hU, rfl | rfl⟩ := hc <;> omega
  simp only [Option.bind_some, shl]
  rw [if_pos b.1, show min (a0_1 % a0_2).toNat IntKind.u64.bits = (a0_1 % a0_2).toNat by show min _ 64 = _; omega]
 ·rw [if_neg hc] at h; simp at h
theorem alu_two_left.calls (a0_0 : Int) (a0_1 : Int) (a0_2 : Int) (r : Int) (w : World) (h : alu_two_left.f a0_0 a0_1 a0_2 = some r) :
  Calls Tryz.prog 86 #[.agg #[.int .u64 a0_0, .int .u64 a0_1, .int .i64 a0_2]] w fun e w' => e = .returned (.int .u64 r) ∧ Below w.heap.size w w' := by
 have hk := alu_two_left.spec a0_0 a0_1 a0_2 r h
 exact alu_two_left0.calls a0_0 a0_1 a0_2 r w hk
-- NOT PRINTED: function 114 (alu_two_right_1)
def alu_two_cut0.f (a0_0 : Int) (a0_1 : Int) (a0_2 : Int) (a1 : Int) (a2 : Bool) : Option (Int) := if a2 = true then ((bits_Sign.f a1 a0_2).bind fun t205 => (some t205)) else ((bits_Field.f a1 0 a0_2).bind fun t206 => (some t206))
set_option maxHeartbeats 8000000 in
set_option maxRecDepth 100000 in
theorem alu_two_cut0.calls (a0_0 : Int) (a0_1 : Int) (a0_2 : Int) (a1 : Int) (a2 : Bool) (r : Int) (w : World) (h : alu_two_cut0.f a0_0 a0_1 a0_2 a1 a2 = some r) :
  Calls Tryz.prog 115 #[.agg #[.int .u64 a0_0, .int .u64 a0_1, .int .i64 a0_2], .int .u64 a1, .bool a2] w fun e w' => e = .returned (.int .u64 r) ∧ Below w.heap.size w w' := by
 have hu104 := Tryz.underlying104
 have HB := am (Below.refl w.heap.size w)
 have H := h
 clear h
 unfold alu_two_cut0.f at H
 by_cases c4 : a2 = true
 ·subst c4
  rw [if_pos rfl] at H
  replace H := Option.bind_eq_some_iff.mp H
  obtain ⟨t205, A50, H⟩ := H
  replace H : (some t205) = some r := H
  have A5 := am A50
  clear A50
  obtain rfl := Option.some.inj H
  go_enter Tryz.func115, Tryz.ntmps115
  go_wp2_with (first | ((with_reducible refine gate_dst (N := 3) rfl ?_); refine be 3 104 #[.int .u64 a0_0, .int .u64 a0_1, .int .i64 a0_2] ?_; intro gb204 hg w6 hbox hb; have BK204 := am hbox; have GW204 := bz HB hg; have GE204 := bz HB hg; replace HB := bn HB hb; clear hb hbox hg; obtain ⟨z7_0, z7_1, z7_2, f7_0, f7_1, f7_2⟩ := cf3 BK204) | ((with_reducible refine gate_callee (f := 58) rfl ?_); refine gl (some 11) rfl rfl Tryz.func58 rfl #[.int .u64 a1, .int .i64 a0_2] rfl ?_; (with_reducible refine (bits_Sign.calls a1 a0_2 t205 _ A5.out).mono ?_); rintro e w' ⟨rfl, ⟨nd, rfl⟩⟩; refine ⟨_, rfl, ?_⟩))
  go_ret
  exact ⟨fe, bs HB GE204⟩
 ·replace c4 := Bool.eq_false_iff.mpr c4
  subst c4
  rw [if_neg ff] at H
  replace H := Option.bind_eq_some_iff.mp H
  obtain ⟨t206, A80, H⟩ := H
  replace H : (some t206) = some r := H
  have A8 := am A80
  clear A80
  obtain rfl := Option.some.inj H
  go_enter Tryz.func115, Tryz.ntmps115
  go_wp2_with (first | ((with_reducible refine gate_dst (N := 3) rfl ?_); refine be 3 104 #[.int .u64 a0_0, .int .u64 a0_1, .int .i64 a0_2] ?_; intro gb204 hg w9 hbox hb; have BK204 := am hbox; have GW204 := bz HB hg; have GE204 := bz HB hg; replace HB := bn HB hb; clear hb hbox hg; obtain ⟨z10_0, z10_1, z10_2, f10_0, f10_1, f10_2⟩ := cf3 BK204) | ((with_reducible refine gate_callee (f := 82) rfl ?_); refine gl (some 15) rfl rfl Tryz.func82 rfl #[.int .u64 a1, .int .i64 0, .int .i64 a0_2] rfl ?_; (with_reducible refine (bits_Field.calls a1 0 a0_2 t206 _ A8.out).mono ?_); rintro e w' ⟨rfl, ⟨nd, rfl⟩⟩; refine ⟨_, rfl, ?_⟩))
  go_ret
  exact ⟨fe, bs HB GE204⟩
def cutOf (x n : Int) (s : Bool) : Int := if s then signOf x n else fieldOf x 0 n
theorem cut_range (x n : Int) (s : Bool) (h : U64 x) : U64 (cutOf x n s) := by
 unfold cutOf; cases s
 ·exact field_range x 0 n h
 ·exact sign_range x n h
def alu_two_cut.f (a0_0 : Int) (a0_1 : Int) (a0_2 : Int) (a1 : Int) (a2 : Bool) : Option (Int) := if U64 a1 then some (cutOf a1 a0_2 a2) else none
theorem alu_two_cut.spec (a0_0 a0_1 a0_2 a1 : Int) (a2 : Bool) (r : Int) (h : alu_two_cut.f a0_0 a0_1 a0_2 a1 a2 = some r) : alu_two_cut0.f a0_0 a0_1 a0_2 a1 a2 = some r := by
 rw [← h]; unfold alu_two_cut.f alu_two_cut0.f cutOf bits_Sign.f bits_Field.f
 by_cases hU : U64 a1
 ·cases a2 <;> simp [hU]
 ·unfold alu_two_cut.f at h; rw [if_neg hU] at h; simp at h
theorem alu_two_cut.calls (a0_0 : Int) (a0_1 : Int) (a0_2 : Int) (a1 : Int) (a2 : Bool) (r : Int) (w : World) (h : alu_two_cut.f a0_0 a0_1 a0_2 a1 a2 = some r) :
  Calls Tryz.prog 115 #[.agg #[.int .u64 a0_0, .int .u64 a0_1, .int .i64 a0_2], .int .u64 a1, .bool a2] w fun e w' => e = .returned (.int .u64 r) ∧ Below w.heap.size w w' := by
 have hk := alu_two_cut.spec a0_0 a0_1 a0_2 a1 a2 r h
 exact alu_two_cut0.calls a0_0 a0_1 a0_2 a1 a2 r w hk
/-- A shift to the right, of a number with a sign or without. -/
def rsh (s : Bool) (x k : Int) : Int := if s then IntKind.u64.wrap (wrap64 x / 2 ^ k.toNat) else x / 2 ^ k.toNat
theorem alu_right1.c (x : Int) (s : Bool) (a c n : Int) (hx : U64 x) (hc : U64 c ∧ (n = 64 ∨ n = 32)) (w : World) (b1 T1 b2 T2 : Nat) (B1 : Blk w b1 #[.bool s] T1) (B2 : Blk w b2 #[.int .u64 a, .int .u64 c, .int .i64 n] T2) :
  Calls Tryz.prog 114 #[.int .u64 x, .pointer (some ⟨b1, 0, none⟩), .pointer (some ⟨b2, 0, none⟩)] w fun e w' => e = .returned (.int .u64 (rsh s x (c % n))) ∧ Below w.heap.size w w' := by
 have hS := Lib.hid (fun W => alu_two_shift.calls a c n _ W (by unfold alu_two_shift.f; rw [if_pos hc]))
 have b : 0 ≤ c % n ∧ c % n < 64 := by obtain ⟨hU, rfl | rfl⟩ := hc <;> omega
 have bb := b.1
 have bc := b.2
 have c1 := B1.cell
 have c2 := B2.cell
 clear B1 B2 b hc
 generalize hk : c % n = k at *
 have hk := Lib.hid hk
 cases s
 all_goals (
  go_enter Tryz.func114, Tryz.ntmps114
  go_wp2_with fail
  refine (hS.out _).mono ?_
  rintro e w1 ⟨rfl, hd⟩
  have hb := Lib.hid (show Below w.heap.size w w1 from (by first | exact hd.below | exact hd))
  clear hd
  go_wp2_with fail
  go_returns
  refine ⟨?_, hb.out⟩
  unfold rsh
  first | rfl | (congr 2; rw [show min k.toNat 64 = k.toNat by omega]; rfl) | (congr 2; simp [show min k.toNat 64 = k.toNat by omega]))
def rightOf (a c n : Int) (s : Bool) : Int := rsh s (cutOf a n s) (c % n)
def alu_two_right.f (a0_0 : Int) (a0_1 : Int) (a0_2 : Int) (a1 : Bool) : Option (Int) := if U64 a0_0 ∧ U64 a0_1 ∧ (a0_2 = 64 ∨ a0_2 = 32) then some (rightOf a0_0 a0_1 a0_2 a1) else none
set_option maxHeartbeats 2000000 in
theorem alu_two_right.calls (a0_0 : Int) (a0_1 : Int) (a0_2 : Int) (a1 : Bool) (r : Int) (w : World) (h : alu_two_right.f a0_0 a0_1 a0_2 a1 = some r) :
  Calls Tryz.prog 87 #[.agg #[.int .u64 a0_0, .int .u64 a0_1, .int .i64 a0_2], .bool a1] w fun e w' => e = .returned (.int .u64 r) ∧ Below w.heap.size w w' := by
 unfold alu_two_right.f at h
 by_cases hc : U64 a0_0 ∧ U64 a0_1 ∧ (a0_2 = 64 ∨ a0_2 = 32)
 case neg => rw [if_neg hc] at h; simp at h
 rw [if_pos hc] at h
 obtain rfl := Option.some.inj h
 have hC := Lib.hid (fun W => alu_two_cut.calls a0_0 a0_1 a0_2 a0_0 a1 _ W (by unfold alu_two_cut.f; rw [if_pos hc.1]))
 have hR := Lib.hid (fun W => alu_right1.c (cutOf a0_0 a0_2 a1) a1 a0_0 a0_1 a0_2 (cut_range _ _ _ hc.1) hc.2 W)
 have hr : Hid (rightOf a0_0 a0_1 a0_2 a1 = rsh a1 (cutOf a0_0 a0_2 a1) (a0_1 % a0_2)) := rfl
 rw [hr.out]
 clear hc hr h
 go_enter Tryz.func87, Tryz.ntmps87
 go_wp2_with fail
 generalize hX : World.alloc (World.alloc w _) _ = X
 have B2 := (Blk.new w _ _).alloc_eq hX
 have B1 : Blk X (w.heap.size + 1) #[.bool a1] 4 := by have h := Blk.new_eq hX; rw [World.size_alloc] at h; exact h
 have hb := Lib.hid (hX ▸ (((Below.refl w.heap.size w).alloc (Nat.le_refl _) _).alloc (by simp) _))
 clear hX
 refine (hC.out _).mono ?_
 rintro e w1 ⟨rfl, hd⟩
 have hd : Below X.heap.size X w1 := by first | exact hd.below | exact hd
 replace B1 := B1.below hd
 replace B2 := B2.below hd
 have hb := Lib.hid (hb.out.trans (hd.mono hb.out.size))
 clear hd
 go_wp2_with fail
 refine (hR.out w1 _ _ _ _ B1 B2).mono ?_
 rintro e w2 ⟨rfl, hd⟩
 have hb := Lib.hid (hb.out.trans (hd.mono hb.out.size))
 clear hd
 go_wp2_with fail
 go_returns
 exact ⟨rfl, hb.out⟩
def bits_Quo0.j0 : Nat → Int → Int → Bool → Bool → Option (Int)
 | 0, _, _, _, _ => none
 | k + 1, x0, x1, x2, x10 => if x10 = true then (some (IntKind.u64.wrap (-x0))) else (if x2 = true then (if (wrap64 (x1)) = 0 then (none) else (some (IntKind.u64.wrap (wrap64 (Int.tdiv (wrap64 (x0)) (wrap64 (x1))))))) else (if x1 = 0 then (none) else (some (IntKind.u64.wrap (Int.tdiv x0 x1)))))
def bits_Quo0.f (k : Nat) (a0 : Int) (a1 : Int) (a2 : Bool) : Option (Int) := if a1 = 0 then (some 18446744073709551615) else (if a2 = true then (bits_Quo0.j0 k a0 a1 a2 (a1 == 18446744073709551615)) else (bits_Quo0.j0 k a0 a1 a2 false))
theorem bits_Quo0.mono_l : ∀ k, (∀ y0 y1 y2 y3, LeO (bits_Quo0.j0 k y0 y1 y2 y3) (bits_Quo0.j0 (k + 1) y0 y1 y2 y3))
 | 0 => fun _ _ _ _ r h => by simp [bits_Quo0.j0] at h
 | k + 1 => by
  have ih0 := bits_Quo0.mono_l k
  ·intro y0 y1 y2 y3
   unfold bits_Quo0.j0
   exact leo
theorem bits_Quo0.mono : ∀ a0 a1 a2 k, LeO (bits_Quo0.f k a0 a1 a2) (bits_Quo0.f (k + 1) a0 a1 a2) := by
 intro a0 a1 a2 k
 have ih0 := bits_Quo0.mono_l k
 unfold bits_Quo0.f
 exact leo
set_option maxHeartbeats 8000000 in
set_option maxRecDepth 100000 in
theorem bits_Quo0.calls (k : Nat) (a0 : Int) (a1 : Int) (a2 : Bool) (r : Int) (w : World) (h : bits_Quo0.f k a0 a1 a2 = some r) :
  Calls Tryz.prog 116 #[.int .u64 a0, .int .u64 a1, .bool a2] w fun e w' => e = .returned (.int .u64 r) ∧ Drawn0 w w' := by
 have H := h
 clear h
 unfold bits_Quo0.f at H
 by_cases c4 : a1 = 0
 ·rw [if_pos c4] at H
  obtain ⟨c4b0, c4b1⟩ := bqt c4
  clear c4
  obtain rfl := Option.some.inj H
  go_enter Tryz.func116, Tryz.ntmps116
  go_wp2
  go_ret
  exact fd
 ·rw [if_neg c4] at H
  obtain ⟨c4b0, c4b1⟩ := bqf c4
  have HC5 := am H
  clear H
  go_enter Tryz.func116, Tryz.ntmps116
  go_upto_region 3 with (fail)
  go_cut [10] (fun v10 wc => ∃ (kq : Nat) (x10_4 : Bool), v10 = .bool x10_4 ∧ Aside0 (bits_Quo0.j0 kq a0 a1 a2 x10_4 = some r) ∧ Aside0 (kq ≤ k) ∧ Drawn0 w wc)
  case first =>
   have H := HC5.out
   clear HC5
   by_cases c6 : a2 = true
   ·subst c6
    rw [if_pos rfl] at H
    have H' := am H
    clear H
    go_wp2
    go_meet
    case rel => exact ⟨_, ((a1 == 18446744073709551615)), fr, H', ⟨om⟩, dd⟩
   ·replace c6 := Bool.eq_false_iff.mpr c6
    subst c6
    rw [if_neg ff] at H
    have H' := am H
    clear H
    go_wp2
    go_meet
    case rel => exact ⟨_, (false), fr, H', ⟨om⟩, dd⟩
  case rest =>
   clear HC5
   try clear c1
   try clear p2
   try clear c4
   try clear c4b0
   try clear c4b1
   try clear c6
   obtain ⟨kq, x10_4, rfl, HA, HJ4, ⟨mc4, rfl⟩⟩ := hcut
   cases kq with
   | zero => exact absurd HA.out (by simp [bits_Quo0.j0])
   | succ kj4 =>
    have H := HA.out
    clear HA
    simp only [bits_Quo0.j0] at H
    by_cases c7 : x10_4 = true
    ·subst c7
     rw [if_pos rfl] at H
     obtain rfl := Option.some.inj H
     go_wp2
     go_ret
     exact fd
    ·replace c7 := Bool.eq_false_iff.mpr c7
     subst c7
     rw [if_neg ff] at H
     by_cases c8 : a2 = true
     ·subst c8
      rw [if_pos rfl] at H
      by_cases c9 : (wrap64 (a1)) = 0
      ·rw [if_pos c9] at H
       exact absurd H (by simp)
      ·rw [if_neg c9] at H
       obtain ⟨c9b0, c9b1⟩ := bqf c9
       obtain rfl := Option.some.inj H
       go_wp2
       go_ret
       exact fd
     ·replace c8 := Bool.eq_false_iff.mpr c8
      subst c8
      rw [if_neg ff] at H
      by_cases c10 : a1 = 0
      ·rw [if_pos c10] at H
       exact absurd H (by simp)
      ·rw [if_neg c10] at H
       obtain ⟨c10b0, c10b1⟩ := bqf c10
       obtain rfl := Option.some.inj H
       go_wp2
       go_ret
       exact fd
def bits_Quo.f (a0 : Int) (a1 : Int) (a2 : Bool) : Option (Int) := if U64 a0 ∧ U64 a1 then some (quoOf a0 a1 a2) else none
theorem bits_Quo.spec (a0 a1 : Int) (a2 : Bool) (r : Int) (h : bits_Quo.f a0 a1 a2 = some r) : ∃ k, bits_Quo0.f k a0 a1 a2 = some r := by
 unfold bits_Quo.f at h
 by_cases hu : U64 a0 ∧ U64 a1
 ·rw [if_pos hu] at h
  obtain rfl := Option.some.inj h
  refine ⟨1, ?_⟩
  unfold bits_Quo0.f quoOf
  by_cases h0 : a1 = 0
  ·rw [if_pos h0, if_pos h0]
  ·rw [if_neg h0, if_neg h0]
   have hw := hu
   unfold U64 at hw
   cases a2
   ·simp only [Bool.false_eq_true, if_false, bits_Quo0.j0]
    rw [if_neg h0, Int.tdiv_eq_ediv_of_nonneg hu.1.1, U64.wrap_eq]
    exact ⟨Int.ediv_nonneg hu.1.1 hu.2.1, Int.le_trans (Int.ediv_le_self _ hu.1.1) hu.1.2⟩
   ·simp only [if_true, bits_Quo0.j0]
    by_cases h1 : a1 = 18446744073709551615
    ·subst h1
     rw [if_pos (by decide)]
     have : wrap64 18446744073709551615 = -1 := by unfold wrap64; omega
     rw [this, Int.tdiv_neg, Int.tdiv_one]
     congr 1; simp only [u64w]; unfold wrap64; omega
    ·rw [if_neg (by simpa using h1), if_neg (by unfold wrap64; omega)]
     congr 1; simp only [u64w]; unfold wrap64; omega
 ·rw [if_neg hu] at h; exact absurd h (by simp)
theorem bits_Quo.eq {a0 a1 : Int} (h : U64 a0) (h1 : U64 a1) (a2 : Bool) : bits_Quo.f a0 a1 a2 = some (quoOf a0 a1 a2) := if_pos ⟨h, h1⟩
theorem bits_Quo.calls (a0 : Int) (a1 : Int) (a2 : Bool) (r : Int) (w : World) (h : bits_Quo.f a0 a1 a2 = some r) :
  Calls Tryz.prog 116 #[.int .u64 a0, .int .u64 a1, .bool a2] w fun e w' => e = .returned (.int .u64 r) ∧ Drawn0 w w' := by
 obtain ⟨k, hk⟩ := bits_Quo.spec a0 a1 a2 r h
 exact bits_Quo0.calls k a0 a1 a2 r w hk
def alu_two_quo0.f (a0_0 : Int) (a0_1 : Int) (a0_2 : Int) (a1 : Bool) : Option (Int) := (alu_two_cut.f a0_0 a0_1 a0_2 a0_0 a1).bind fun t208 => ((alu_two_cut.f a0_0 a0_1 a0_2 a0_1 a1).bind fun t209 => ((bits_Quo.f t208 t209 a1).bind fun t210 => (some t210)))
def alu_two_quo0.T1 : Bool × List (List Nat × List Nat) := (true, [([], []), ([], []), ([1], [1]), ([], []), ([0, 2, 3], [0, 2, 3]), ([], []), ([], []), ([6], [6]), ([], []), ([5, 7, 8, 4], [5, 7, 8]), ([], []), ([4, 9, 10, 9], [4, 9, 10]), ([11, 11, 0, 1, 2, 3, 4, 5, 6, 7, 8, 9, 10, 11], [11])])
def alu_two_quo0.B1 : List Nat := [0, 0, 2, 0, 15, 0, 0, 64, 0, 511, 0, 2047, 4095]
theorem alu_two_quo0.tab1 : rtab .any (opsOf Tryz.f88 1) = alu_two_quo0.T1 := by kernel_rfl
theorem alu_two_quo0.bits1 : waitsOk alu_two_quo0.T1.2 alu_two_quo0.B1 = true := by kernel_rfl
set_option maxHeartbeats 8000000 in
set_option maxRecDepth 100000 in
theorem alu_two_quo0.calls (a0_0 : Int) (a0_1 : Int) (a0_2 : Int) (a1 : Bool) (r : Int) (w : World) (h : alu_two_quo0.f a0_0 a0_1 a0_2 a1 = some r) :
  Calls Tryz.prog 88 #[.agg #[.int .u64 a0_0, .int .u64 a0_1, .int .i64 a0_2], .bool a1] w fun e w' => e = .returned (.int .u64 r) ∧ Below w.heap.size w w' := by
 have hu104 := Tryz.underlying104
 have HB := am (Below.refl w.heap.size w)
 have H := h
 clear h
 unfold alu_two_quo0.f at H
 obtain ⟨t208, A3, H⟩ := bam H
 try dsimp only at H
 obtain ⟨t209, A4, H⟩ := bam H
 try dsimp only at H
 replace H := Option.bind_eq_some_iff.mp H
 obtain ⟨t210, A50, H⟩ := H
 replace H : (some t210) = some r := H
 have A5 := am A50
 clear A50
 obtain rfl := Option.some.inj H
 go_enter Tryz.func88, Tryz.ntmps88
 try go_wp2_with (first | ((with_reducible refine gate_dst (N := 2) rfl ?_); refine be 2 104 #[.int .u64 a0_0, .int .u64 a0_1, .int .i64 a0_2] ?_; intro gb207 hg w6 hbox hb; have BK207 := am hbox; have GW207 := bz HB hg; have GE207 := bz HB hg; replace HB := bn HB hb; clear hb hbox hg))
 have n0_ := am (blk_drew BK207.out)
 have n1_ := am (below_drew1 HB.out)
 clear BK207
 clear HB
 have BK207 := n0_
 have HB := n1_
 clear n0_ n1_
 refine start_ (n := 13) (S := fun w' => w'.cell? ⟨gb207, 0, none⟩ = some (.int .u64 a0_0) ∧ w'.cell? ⟨gb207, 1, none⟩ = some (.int .u64 a0_1) ∧ w'.cell? ⟨gb207, 2, none⟩ = some (.int .i64 a0_2)) (ds := []) #[false, false, false, false, false, false, false, false, false, false, false, false, false] (by kernel_rfl) rfl rfl ⟨(blk_cell BK207.out 0).trans rfl, (blk_cell BK207.out 1).trans rfl, (blk_cell BK207.out 2).trans rfl⟩ (fun hHeld => ?_); refine with_tabW alu_two_quo0.tab1 alu_two_quo0.bits1 (fun HT_ HW_ => ?_)
 generalize w6.drew = w7 at BK207 HB hHeld ⊢
 refine pure_ (i := 1) (N := some 6) (v := ?_) (a' := ?_) #[false, true, false, false, false, false, false, false, false, false, false, false, false] rfl rfl (any_of HT_.out (by kernel_rfl)) (fun _ _ _ h => h) (Or.inl ⟨by rfl, ?_⟩) ?_ ?_
 rotate_left
 ·intro w'
  go_simp
  with_reducible rfl
 rotate_left
 ·simp only [Act.put, List.setIfInBounds_toArray, List.set_cons_zero, List.set_cons_succ, i64_w, i32_w]
  rfl
 refine pure_ (i := 3) (N := some 8) (v := ?_) (a' := ?_) #[false, true, false, true, false, false, false, false, false, false, false, false, false] rfl rfl (any_of HT_.out (by kernel_rfl)) (fun _ _ _ h => h) (Or.inl ⟨by rfl, ?_⟩) ?_ ?_
 rotate_left
 ·intro w'
  go_simp
  with_reducible rfl
 rotate_left
 ·simp only [Act.put, List.setIfInBounds_toArray, List.set_cons_zero, List.set_cons_succ, i64_w, i32_w]
  rfl
 refine pure_ (i := 6) (N := some 11) (v := ?_) (a' := ?_) #[false, true, false, true, false, false, true, false, false, false, false, false, false] rfl rfl (any_of HT_.out (by kernel_rfl)) (fun _ _ _ h => h) (Or.inl ⟨by rfl, ?_⟩) ?_ ?_
 rotate_left
 ·intro w'
  go_simp
  with_reducible rfl
 rotate_left
 ·simp only [Act.put, List.setIfInBounds_toArray, List.set_cons_zero, List.set_cons_succ, i64_w, i32_w]
  rfl
 refine pure_ (i := 8) (N := some 13) (v := ?_) (a' := ?_) #[false, true, false, true, false, false, true, false, true, false, false, false, false] rfl rfl (any_of HT_.out (by kernel_rfl)) (fun _ _ _ h => h) (Or.inl ⟨by rfl, ?_⟩) ?_ ?_
 rotate_left
 ·intro w'
  go_simp
  with_reducible rfl
 rotate_left
 ·simp only [Act.put, List.setIfInBounds_toArray, List.set_cons_zero, List.set_cons_succ, i64_w, i32_w]
  rfl
 refine pure_ (i := 10) (N := some 15) (v := ?_) (a' := ?_) #[false, true, false, true, false, false, true, false, true, false, true, false, false] rfl rfl (any_of HT_.out (by kernel_rfl)) (fun _ _ _ h => h) (Or.inl ⟨by rfl, ?_⟩) ?_ ?_
 rotate_left
 ·intro w'
  go_simp
  with_reducible rfl
 rotate_left
 ·simp only [Act.put, List.setIfInBounds_toArray, List.set_cons_zero, List.set_cons_succ, i64_w, i32_w]
  rfl
 refine take_ (i := 0) (N := some 5) (v := ?_) (a' := ?_) #[true, true, false, true, false, false, true, false, true, false, true, false, false] rfl rfl (take_ofW HT_.out HW_.out (by kernel_rfl)) (fun _ _ _ h => h) (Or.inl ⟨by rfl, ?_⟩) hHeld ?_ ?_
 rotate_left
 ·rintro w' ⟨s0, s1, s2⟩
  go_simp
  with_reducible rfl
 rotate_left
 ·simp only [Act.put, List.setIfInBounds_toArray, List.set_cons_zero, List.set_cons_succ, i64_w, i32_w]
  rfl
 refine take_ (i := 2) (N := some 7) (v := ?_) (a' := ?_) #[true, true, true, true, false, false, true, false, true, false, true, false, false] rfl rfl (take_ofW HT_.out HW_.out (by kernel_rfl)) (fun _ _ _ h => h) (Or.inl ⟨by rfl, ?_⟩) hHeld ?_ ?_
 rotate_left
 ·rintro w' ⟨s0, s1, s2⟩
  go_simp
  with_reducible rfl
 rotate_left
 ·simp only [Act.put, List.setIfInBounds_toArray, List.set_cons_zero, List.set_cons_succ, i64_w, i32_w]
  rfl
 refine take_ (i := 5) (N := some 10) (v := ?_) (a' := ?_) #[true, true, true, true, false, true, true, false, true, false, true, false, false] rfl rfl (take_ofW HT_.out HW_.out (by kernel_rfl)) (fun _ _ _ h => h) (Or.inl ⟨by rfl, ?_⟩) hHeld ?_ ?_
 rotate_left
 ·rintro w' ⟨s0, s1, s2⟩
  go_simp
  with_reducible rfl
 rotate_left
 ·simp only [Act.put, List.setIfInBounds_toArray, List.set_cons_zero, List.set_cons_succ, i64_w, i32_w]
  rfl
 refine take_ (i := 7) (N := some 12) (v := ?_) (a' := ?_) #[true, true, true, true, false, true, true, true, true, false, true, false, false] rfl rfl (take_ofW HT_.out HW_.out (by kernel_rfl)) (fun _ _ _ h => h) (Or.inl ⟨by rfl, ?_⟩) hHeld ?_ ?_
 rotate_left
 ·rintro w' ⟨s0, s1, s2⟩
  go_simp
  with_reducible rfl
 rotate_left
 ·simp only [Act.put, List.setIfInBounds_toArray, List.set_cons_zero, List.set_cons_succ, i64_w, i32_w]
  rfl
 refine one_ (i := 4) (N := some 9) #[true, true, true, true, true, true, true, true, true, false, true, false, false] rfl rfl (one_of HT_.out (by kernel_rfl)) (by decide) (fun K hK => ?_)
 refine goes_ Tryz.func115 (by kernel_rfl) rfl #[.agg #[.int .u64 a0_0, .int .u64 a0_1, .int .i64 a0_2], .int .u64 a0_0, .bool a1] (by rfl) rfl rfl (by (try simp only [List.map_toArray, List.map_cons, List.map_nil]); first | done | rfl | (simp only [List.length_drop, List.length_take]; rfl)) ?_
 with_reducible refine (alu_two_cut.calls a0_0 a0_1 a0_2 a0_0 a1 t208 _ A3.out).mono ?_
 rintro e w8 ⟨rfl, hb⟩
 refine ⟨_, rfl, ?_⟩
 have n0_ := bk BK207 hb
 have n1_ := bns HB GE207 hb
 clear BK207
 clear HB
 have BK207 := n0_
 have HB := n1_
 clear n0_ n1_
 (try clear hb)
 (try clear hb2)
 (try clear hk)
 (try clear hi)
 refine hK.out _ _ ⟨(blk_cell BK207.out 0).trans rfl, (blk_cell BK207.out 1).trans rfl, (blk_cell BK207.out 2).trans rfl⟩ (fun hHeld => ?_)
 clear hK K
 refine norm_ (a' := ?_) ?_ ?_
 rotate_left
 ·show Act.put _ (some 9) _ = _
  simp only [Act.put, List.setIfInBounds_toArray, List.set_cons_zero, List.set_cons_succ, i64_w, i32_w]
  rfl
 refine one_ (i := 9) (N := some 14) #[true, true, true, true, true, true, true, true, true, true, true, false, false] rfl rfl (one_of HT_.out (by kernel_rfl)) (by decide) (fun K hK => ?_)
 refine goes_ Tryz.func115 (by kernel_rfl) rfl #[.agg #[.int .u64 a0_0, .int .u64 a0_1, .int .i64 a0_2], .int .u64 a0_1, .bool a1] (by rfl) rfl rfl (by (try simp only [List.map_toArray, List.map_cons, List.map_nil]); first | done | rfl | (simp only [List.length_drop, List.length_take]; rfl)) ?_
 with_reducible refine (alu_two_cut.calls a0_0 a0_1 a0_2 a0_1 a1 t209 _ A4.out).mono ?_
 rintro e w9 ⟨rfl, hb⟩
 refine ⟨_, rfl, ?_⟩
 have n0_ := bk BK207 hb
 have n1_ := bns HB GE207 hb
 clear BK207
 clear HB
 have BK207 := n0_
 have HB := n1_
 clear n0_ n1_
 (try clear hb)
 (try clear hb2)
 (try clear hk)
 (try clear hi)
 refine hK.out _ _ ⟨(blk_cell BK207.out 0).trans rfl, (blk_cell BK207.out 1).trans rfl, (blk_cell BK207.out 2).trans rfl⟩ (fun hHeld => ?_)
 clear hK K
 refine norm_ (a' := ?_) ?_ ?_
 rotate_left
 ·show Act.put _ (some 14) _ = _
  simp only [Act.put, List.setIfInBounds_toArray, List.set_cons_zero, List.set_cons_succ, i64_w, i32_w]
  rfl
 refine one_ (i := 11) (N := some 16) #[true, true, true, true, true, true, true, true, true, true, true, true, false] rfl rfl (one_of HT_.out (by kernel_rfl)) (by decide) (fun K hK => ?_)
 refine goes_ Tryz.func116 (by kernel_rfl) rfl #[.int .u64 t208, .int .u64 t209, .bool a1] (by rfl) rfl rfl (by (try simp only [List.map_toArray, List.map_cons, List.map_nil]); first | done | rfl | (simp only [List.length_drop, List.length_take]; rfl)) ?_
 with_reducible refine (bits_Quo.calls t208 t209 a1 t210 _ A5.out).mono ?_
 rintro e w' ⟨rfl, ⟨nd, rfl⟩⟩
 refine ⟨_, rfl, ?_⟩
 refine hK.out _ _ ⟨(blk_cell BK207.out 0).trans rfl, (blk_cell BK207.out 1).trans rfl, (blk_cell BK207.out 2).trans rfl⟩ (fun hHeld => ?_)
 clear hK K
 refine norm_ (a' := ?_) ?_ ?_
 rotate_left
 ·show Act.put _ (some 16) _ = _
  simp only [Act.put, List.setIfInBounds_toArray, List.set_cons_zero, List.set_cons_succ, i64_w, i32_w]
  rfl
 refine pure_ (i := 12) (N := some 4) (v := ?_) (a' := ?_) #[true, true, true, true, true, true, true, true, true, true, true, true, true] rfl rfl (any_of HT_.out (by kernel_rfl)) (fun _ _ _ h => h) (Or.inl ⟨by rfl, ?_⟩) ?_ ?_
 rotate_left
 ·intro w'
  go_simp
  with_reducible rfl
 rotate_left
 ·simp only [Act.put, List.setIfInBounds_toArray, List.set_cons_zero, List.set_cons_succ, i64_w, i32_w]
  rfl
 refine done_ (done_of HT_.out (by kernel_rfl)) ?_
 try go_wp2
 go_ret
 exact ⟨fe, bs HB GE207⟩
def alu_two_quo.f (a0_0 : Int) (a0_1 : Int) (a0_2 : Int) (a1 : Bool) : Option (Int) := if U64 a0_0 ∧ U64 a0_1 then some (quoOf (cutOf a0_0 a0_2 a1) (cutOf a0_1 a0_2 a1) a1) else none
theorem alu_two_quo.spec (a0_0 a0_1 a0_2 : Int) (a1 : Bool) (r : Int) (h : alu_two_quo.f a0_0 a0_1 a0_2 a1 = some r) : alu_two_quo0.f a0_0 a0_1 a0_2 a1 = some r := by
 unfold alu_two_quo.f at h
 by_cases hc : U64 a0_0 ∧ U64 a0_1
 ·rw [if_pos hc] at h; rw [← h]
  unfold alu_two_quo0.f alu_two_cut.f bits_Quo.f
  rw [if_pos hc.1, if_pos hc.2]
  simp only [Option.bind_some]
  simp [cut_range, hc.1, hc.2]
 ·rw [if_neg hc] at h; simp at h
theorem alu_two_quo.calls (a0_0 : Int) (a0_1 : Int) (a0_2 : Int) (a1 : Bool) (r : Int) (w : World) (h : alu_two_quo.f a0_0 a0_1 a0_2 a1 = some r) :
  Calls Tryz.prog 88 #[.agg #[.int .u64 a0_0, .int .u64 a0_1, .int .i64 a0_2], .bool a1] w fun e w' => e = .returned (.int .u64 r) ∧ Below w.heap.size w w' := by
 have hk := alu_two_quo.spec a0_0 a0_1 a0_2 a1 r h
 exact alu_two_quo0.calls a0_0 a0_1 a0_2 a1 r w hk
def bits_Rem0.f (a0 : Int) (a1 : Int) (a2 : Bool) : Option (Int) := if a1 = 0 then (some a0) else ((bits_Quo.f a0 a1 a2).bind fun t211 => (some (IntKind.u64.wrap (a0 - (IntKind.u64.wrap (t211 * a1))))))
set_option maxHeartbeats 8000000 in
set_option maxRecDepth 100000 in
theorem bits_Rem0.calls (a0 : Int) (a1 : Int) (a2 : Bool) (r : Int) (w : World) (h : bits_Rem0.f a0 a1 a2 = some r) :
  Calls Tryz.prog 117 #[.int .u64 a0, .int .u64 a1, .bool a2] w fun e w' => e = .returned (.int .u64 r) ∧ Drawn0 w w' := by
 have H := h
 clear h
 unfold bits_Rem0.f at H
 by_cases c4 : a1 = 0
 ·rw [if_pos c4] at H
  obtain ⟨c4b0, c4b1⟩ := bqt c4
  clear c4
  obtain rfl := Option.some.inj H
  go_enter Tryz.func117, Tryz.ntmps117
  go_wp2
  go_ret
  exact fd
 ·rw [if_neg c4] at H
  obtain ⟨c4b0, c4b1⟩ := bqf c4
  obtain ⟨t211, A5, H⟩ := bam H
  try dsimp only at H
  obtain rfl := Option.some.inj H
  go_enter Tryz.func117, Tryz.ntmps117
  go_wp2_with (first | ((with_reducible refine gate_callee (f := 116) rfl ?_); refine gl (some 14) rfl rfl Tryz.func116 rfl #[.int .u64 a0, .int .u64 a1, .bool a2] rfl ?_; (with_reducible refine (bits_Quo.calls a0 a1 a2 t211 _ A5.out).mono ?_); rintro e w' ⟨rfl, ⟨nd, rfl⟩⟩; refine ⟨_, rfl, ?_⟩))
  go_ret
  exact fd
def bits_Rem.f (a0 : Int) (a1 : Int) (a2 : Bool) : Option (Int) := if U64 a0 ∧ U64 a1 then some (remOf a0 a1 a2) else none
theorem bits_Rem.spec (a0 a1 : Int) (a2 : Bool) (r : Int) (h : bits_Rem.f a0 a1 a2 = some r) : bits_Rem0.f a0 a1 a2 = some r := by
 unfold bits_Rem.f at h
 by_cases hu : U64 a0 ∧ U64 a1
 ·rw [if_pos hu] at h
  obtain rfl := Option.some.inj h
  unfold bits_Rem0.f
  by_cases h0 : a1 = 0
  ·rw [if_pos h0, remOf, if_pos h0]
  ·rw [if_neg h0, bits_Quo.eq hu.1 hu.2]
   simp only [Option.bind_some]
   rw [rem_quo a0 a1 a2 hu.1 hu.2 h0]
 ·rw [if_neg hu] at h; exact absurd h (by simp)
theorem bits_Rem.eq {a0 a1 : Int} (h : U64 a0) (h1 : U64 a1) (a2 : Bool) : bits_Rem.f a0 a1 a2 = some (remOf a0 a1 a2) := if_pos ⟨h, h1⟩
theorem bits_Rem.calls (a0 : Int) (a1 : Int) (a2 : Bool) (r : Int) (w : World) (h : bits_Rem.f a0 a1 a2 = some r) :
  Calls Tryz.prog 117 #[.int .u64 a0, .int .u64 a1, .bool a2] w fun e w' => e = .returned (.int .u64 r) ∧ Drawn0 w w' := by
 have hk := bits_Rem.spec a0 a1 a2 r h
 exact bits_Rem0.calls a0 a1 a2 r w hk
def alu_two_rem0.f (a0_0 : Int) (a0_1 : Int) (a0_2 : Int) (a1 : Bool) : Option (Int) := (alu_two_cut.f a0_0 a0_1 a0_2 a0_0 a1).bind fun t213 => ((alu_two_cut.f a0_0 a0_1 a0_2 a0_1 a1).bind fun t214 => ((bits_Rem.f t213 t214 a1).bind fun t215 => (some t215)))
def alu_two_rem0.T1 : Bool × List (List Nat × List Nat) := (true, [([], []), ([], []), ([1], [1]), ([], []), ([0, 2, 3], [0, 2, 3]), ([], []), ([], []), ([6], [6]), ([], []), ([5, 7, 8, 4], [5, 7, 8]), ([], []), ([4, 9, 10, 9], [4, 9, 10]), ([11, 11, 0, 1, 2, 3, 4, 5, 6, 7, 8, 9, 10, 11], [11])])
def alu_two_rem0.B1 : List Nat := [0, 0, 2, 0, 15, 0, 0, 64, 0, 511, 0, 2047, 4095]
theorem alu_two_rem0.tab1 : rtab .any (opsOf Tryz.f89 1) = alu_two_rem0.T1 := by kernel_rfl
theorem alu_two_rem0.bits1 : waitsOk alu_two_rem0.T1.2 alu_two_rem0.B1 = true := by kernel_rfl
set_option maxHeartbeats 8000000 in
set_option maxRecDepth 100000 in
theorem alu_two_rem0.calls (a0_0 : Int) (a0_1 : Int) (a0_2 : Int) (a1 : Bool) (r : Int) (w : World) (h : alu_two_rem0.f a0_0 a0_1 a0_2 a1 = some r) :
  Calls Tryz.prog 89 #[.agg #[.int .u64 a0_0, .int .u64 a0_1, .int .i64 a0_2], .bool a1] w fun e w' => e = .returned (.int .u64 r) ∧ Below w.heap.size w w' := by
 have hu104 := Tryz.underlying104
 have HB := am (Below.refl w.heap.size w)
 have H := h
 clear h
 unfold alu_two_rem0.f at H
 obtain ⟨t213, A3, H⟩ := bam H
 try dsimp only at H
 obtain ⟨t214, A4, H⟩ := bam H
 try dsimp only at H
 replace H := Option.bind_eq_some_iff.mp H
 obtain ⟨t215, A50, H⟩ := H
 replace H : (some t215) = some r := H
 have A5 := am A50
 clear A50
 obtain rfl := Option.some.inj H
 go_enter Tryz.func89, Tryz.ntmps89
 try go_wp2_with (first | ((with_reducible refine gate_dst (N := 2) rfl ?_); refine be 2 104 #[.int .u64 a0_0, .int .u64 a0_1, .int .i64 a0_2] ?_; intro gb212 hg w6 hbox hb; have BK212 := am hbox; have GW212 := bz HB hg; have GE212 := bz HB hg; replace HB := bn HB hb; clear hb hbox hg))
 have n0_ := am (blk_drew BK212.out)
 have n1_ := am (below_drew1 HB.out)
 clear BK212
 clear HB
 have BK212 := n0_
 have HB := n1_
 clear n0_ n1_
 refine start_ (n := 13) (S := fun w' => w'.cell? ⟨gb212, 0, none⟩ = some (.int .u64 a0_0) ∧ w'.cell? ⟨gb212, 1, none⟩ = some (.int .u64 a0_1) ∧ w'.cell? ⟨gb212, 2, none⟩ = some (.int .i64 a0_2)) (ds := []) #[false, false, false, false, false, false, false, false, false, false, false, false, false] (by kernel_rfl) rfl rfl ⟨(blk_cell BK212.out 0).trans rfl, (blk_cell BK212.out 1).trans rfl, (blk_cell BK212.out 2).trans rfl⟩ (fun hHeld => ?_); refine with_tabW alu_two_rem0.tab1 alu_two_rem0.bits1 (fun HT_ HW_ => ?_)
 generalize w6.drew = w7 at BK212 HB hHeld ⊢
 refine pure_ (i := 1) (N := some 6) (v := ?_) (a' := ?_) #[false, true, false, false, false, false, false, false, false, false, false, false, false] rfl rfl (any_of HT_.out (by kernel_rfl)) (fun _ _ _ h => h) (Or.inl ⟨by rfl, ?_⟩) ?_ ?_
 rotate_left
 ·intro w'
  go_simp
  with_reducible rfl
 rotate_left
 ·simp only [Act.put, List.setIfInBounds_toArray, List.set_cons_zero, List.set_cons_succ, i64_w, i32_w]
  rfl
 refine pure_ (i := 3) (N := some 8) (v := ?_) (a' := ?_) #[false, true, false, true, false, false, false, false, false, false, false, false, false] rfl rfl (any_of HT_.out (by kernel_rfl)) (fun _ _ _ h => h) (Or.inl ⟨by rfl, ?_⟩) ?_ ?_
 rotate_left
 ·intro w'
  go_simp
  with_reducible rfl
 rotate_left
 ·simp only [Act.put, List.setIfInBounds_toArray, List.set_cons_zero, List.set_cons_succ, i64_w, i32_w]
  rfl
 refine pure_ (i := 6) (N := some 11) (v := ?_) (a' := ?_) #[false, true, false, true, false, false, true, false, false, false, false, false, false] rfl rfl (any_of HT_.out (by kernel_rfl)) (fun _ _ _ h => h) (Or.inl ⟨by rfl, ?_⟩) ?_ ?_
 rotate_left
 ·intro w'
  go_simp
  with_reducible rfl
 rotate_left
 ·simp only [Act.put, List.setIfInBounds_toArray, List.set_cons_zero, List.set_cons_succ, i64_w, i32_w]
  rfl
 refine pure_ (i := 8) (N := some 13) (v := ?_) (a' := ?_) #[false, true, false, true, false, false, true, false, true, false, false, false, false] rfl rfl (any_of HT_.out (by kernel_rfl)) (fun _ _ _ h => h) (Or.inl ⟨by rfl, ?_⟩) ?_ ?_
 rotate_left
 ·intro w'
  go_simp
  with_reducible rfl
 rotate_left
 ·simp only [Act.put, List.setIfInBounds_toArray, List.set_cons_zero, List.set_cons_succ, i64_w, i32_w]
  rfl
 refine pure_ (i := 10) (N := some 15) (v := ?_) (a' := ?_) #[false, true, false, true, false, false, true, false, true, false, true, false, false] rfl rfl (any_of HT_.out (by kernel_rfl)) (fun _ _ _ h => h) (Or.inl ⟨by rfl, ?_⟩) ?_ ?_
 rotate_left
 ·intro w'
  go_simp
  with_reducible rfl
 rotate_left
 ·simp only [Act.put, List.setIfInBounds_toArray, List.set_cons_zero, List.set_cons_succ, i64_w, i32_w]
  rfl
 refine take_ (i := 0) (N := some 5) (v := ?_) (a' := ?_) #[true, true, false, true, false, false, true, false, true, false, true, false, false] rfl rfl (take_ofW HT_.out HW_.out (by kernel_rfl)) (fun _ _ _ h => h) (Or.inl ⟨by rfl, ?_⟩) hHeld ?_ ?_
 rotate_left
 ·rintro w' ⟨s0, s1, s2⟩
  go_simp
  with_reducible rfl
 rotate_left
 ·simp only [Act.put, List.setIfInBounds_toArray, List.set_cons_zero, List.set_cons_succ, i64_w, i32_w]
  rfl
 refine take_ (i := 2) (N := some 7) (v := ?_) (a' := ?_) #[true, true, true, true, false, false, true, false, true, false, true, false, false] rfl rfl (take_ofW HT_.out HW_.out (by kernel_rfl)) (fun _ _ _ h => h) (Or.inl ⟨by rfl, ?_⟩) hHeld ?_ ?_
 rotate_left
 ·rintro w' ⟨s0, s1, s2⟩
  go_simp
  with_reducible rfl
 rotate_left
 ·simp only [Act.put, List.setIfInBounds_toArray, List.set_cons_zero, List.set_cons_succ, i64_w, i32_w]
  rfl
 refine take_ (i := 5) (N := some 10) (v := ?_) (a' := ?_) #[true, true, true, true, false, true, true, false, true, false, true, false, false] rfl rfl (take_ofW HT_.out HW_.out (by kernel_rfl)) (fun _ _ _ h => h) (Or.inl ⟨by rfl, ?_⟩) hHeld ?_ ?_
 rotate_left
 ·rintro w' ⟨s0, s1, s2⟩
  go_simp
  with_reducible rfl
 rotate_left
 ·simp only [Act.put, List.setIfInBounds_toArray, List.set_cons_zero, List.set_cons_succ, i64_w, i32_w]
  rfl
 refine take_ (i := 7) (N := some 12) (v := ?_) (a' := ?_) #[true, true, true, true, false, true, true, true, true, false, true, false, false] rfl rfl (take_ofW HT_.out HW_.out (by kernel_rfl)) (fun _ _ _ h => h) (Or.inl ⟨by rfl, ?_⟩) hHeld ?_ ?_
 rotate_left
 ·rintro w' ⟨s0, s1, s2⟩
  go_simp
  with_reducible rfl
 rotate_left
 ·simp only [Act.put, List.setIfInBounds_toArray, List.set_cons_zero, List.set_cons_succ, i64_w, i32_w]
  rfl
 refine one_ (i := 4) (N := some 9) #[true, true, true, true, true, true, true, true, true, false, true, false, false] rfl rfl (one_of HT_.out (by kernel_rfl)) (by decide) (fun K hK => ?_)
 refine goes_ Tryz.func115 (by kernel_rfl) rfl #[.agg #[.int .u64 a0_0, .int .u64 a0_1, .int .i64 a0_2], .int .u64 a0_0, .bool a1] (by rfl) rfl rfl (by (try simp only [List.map_toArray, List.map_cons, List.map_nil]); first | done | rfl | (simp only [List.length_drop, List.length_take]; rfl)) ?_
 with_reducible refine (alu_two_cut.calls a0_0 a0_1 a0_2 a0_0 a1 t213 _ A3.out).mono ?_
 rintro e w8 ⟨rfl, hb⟩
 refine ⟨_, rfl, ?_⟩
 have n0_ := bk BK212 hb
 have n1_ := bns HB GE212 hb
 clear BK212
 clear HB
 have BK212 := n0_
 have HB := n1_
 clear n0_ n1_
 (try clear hb)
 (try clear hb2)
 (try clear hk)
 (try clear hi)
 refine hK.out _ _ ⟨(blk_cell BK212.out 0).trans rfl, (blk_cell BK212.out 1).trans rfl, (blk_cell BK212.out 2).trans rfl⟩ (fun hHeld => ?_)
 clear hK K
 refine norm_ (a' := ?_) ?_ ?_
 rotate_left
 ·show Act.put _ (some 9) _ = _
  simp only [Act.put, List.setIfInBounds_toArray, List.set_cons_zero, List.set_cons_succ, i64_w, i32_w]
  rfl
 refine one_ (i := 9) (N := some 14) #[true, true, true, true, true, true, true, true, true, true, true, false, false] rfl rfl (one_of HT_.out (by kernel_rfl)) (by decide) (fun K hK => ?_)
 refine goes_ Tryz.func115 (by kernel_rfl) rfl #[.agg #[.int .u64 a0_0, .int .u64 a0_1, .int .i64 a0_2], .int .u64 a0_1, .bool a1] (by rfl) rfl rfl (by (try simp only [List.map_toArray, List.map_cons, List.map_nil]); first | done | rfl | (simp only [List.length_drop, List.length_take]; rfl)) ?_
 with_reducible refine (alu_two_cut.calls a0_0 a0_1 a0_2 a0_1 a1 t214 _ A4.out).mono ?_
 rintro e w9 ⟨rfl, hb⟩
 refine ⟨_, rfl, ?_⟩
 have n0_ := bk BK212 hb
 have n1_ := bns HB GE212 hb
 clear BK212
 clear HB
 have BK212 := n0_
 have HB := n1_
 clear n0_ n1_
 (try clear hb)
 (try clear hb2)
 (try clear hk)
 (try clear hi)
 refine hK.out _ _ ⟨(blk_cell BK212.out 0).trans rfl, (blk_cell BK212.out 1).trans rfl, (blk_cell BK212.out 2).trans rfl⟩ (fun hHeld => ?_)
 clear hK K
 refine norm_ (a' := ?_) ?_ ?_
 rotate_left
 ·show Act.put _ (some 14) _ = _
  simp only [Act.put, List.setIfInBounds_toArray, List.set_cons_zero, List.set_cons_succ, i64_w, i32_w]
  rfl
 refine one_ (i := 11) (N := some 16) #[true, true, true, true, true, true, true, true, true, true, true, true, false] rfl rfl (one_of HT_.out (by kernel_rfl)) (by decide) (fun K hK => ?_)
 refine goes_ Tryz.func117 (by kernel_rfl) rfl #[.int .u64 t213, .int .u64 t214, .bool a1] (by rfl) rfl rfl (by (try simp only [List.map_toArray, List.map_cons, List.map_nil]); first | done | rfl | (simp only [List.length_drop, List.length_take]; rfl)) ?_
 with_reducible refine (bits_Rem.calls t213 t214 a1 t215 _ A5.out).mono ?_
 rintro e w' ⟨rfl, ⟨nd, rfl⟩⟩
 refine ⟨_, rfl, ?_⟩
 refine hK.out _ _ ⟨(blk_cell BK212.out 0).trans rfl, (blk_cell BK212.out 1).trans rfl, (blk_cell BK212.out 2).trans rfl⟩ (fun hHeld => ?_)
 clear hK K
 refine norm_ (a' := ?_) ?_ ?_
 rotate_left
 ·show Act.put _ (some 16) _ = _
  simp only [Act.put, List.setIfInBounds_toArray, List.set_cons_zero, List.set_cons_succ, i64_w, i32_w]
  rfl
 refine pure_ (i := 12) (N := some 4) (v := ?_) (a' := ?_) #[true, true, true, true, true, true, true, true, true, true, true, true, true] rfl rfl (any_of HT_.out (by kernel_rfl)) (fun _ _ _ h => h) (Or.inl ⟨by rfl, ?_⟩) ?_ ?_
 rotate_left
 ·intro w'
  go_simp
  with_reducible rfl
 rotate_left
 ·simp only [Act.put, List.setIfInBounds_toArray, List.set_cons_zero, List.set_cons_succ, i64_w, i32_w]
  rfl
 refine done_ (done_of HT_.out (by kernel_rfl)) ?_
 try go_wp2
 go_ret
 exact ⟨fe, bs HB GE212⟩
def alu_two_rem.f (a0_0 : Int) (a0_1 : Int) (a0_2 : Int) (a1 : Bool) : Option (Int) := if U64 a0_0 ∧ U64 a0_1 then some (remOf (cutOf a0_0 a0_2 a1) (cutOf a0_1 a0_2 a1) a1) else none
theorem alu_two_rem.spec (a0_0 a0_1 a0_2 : Int) (a1 : Bool) (r : Int) (h : alu_two_rem.f a0_0 a0_1 a0_2 a1 = some r) : alu_two_rem0.f a0_0 a0_1 a0_2 a1 = some r := by
 unfold alu_two_rem.f at h
 by_cases hc : U64 a0_0 ∧ U64 a0_1
 ·rw [if_pos hc] at h; rw [← h]
  unfold alu_two_rem0.f alu_two_cut.f bits_Rem.f
  rw [if_pos hc.1, if_pos hc.2]
  simp only [Option.bind_some]
  simp [cut_range, hc.1, hc.2]
 ·rw [if_neg hc] at h; simp at h
theorem alu_two_rem.calls (a0_0 : Int) (a0_1 : Int) (a0_2 : Int) (a1 : Bool) (r : Int) (w : World) (h : alu_two_rem.f a0_0 a0_1 a0_2 a1 = some r) :
  Calls Tryz.prog 89 #[.agg #[.int .u64 a0_0, .int .u64 a0_1, .int .i64 a0_2], .bool a1] w fun e w' => e = .returned (.int .u64 r) ∧ Below w.heap.size w w' := by
 have hk := alu_two_rem.spec a0_0 a0_1 a0_2 a1 r h
 exact alu_two_rem0.calls a0_0 a0_1 a0_2 a1 r w hk
def sizedOf (op a c n : Int) : Int × Bool :=
 if op = 22 ∨ op = 41 ∨ op = 45 ∨ op = 31 then (IntKind.u64.wrap (a + c), true)
 else if op = 32 ∨ op = 46 then (IntKind.u64.wrap (a - c), true)
 else if op = 33 ∨ op = 28 ∨ op = 47 ∨ op = 42 then (IntKind.u64.wrap (a * 2 ^ (c % n).toNat), true)
 else if op = 37 ∨ op = 29 ∨ op = 48 ∨ op = 43 then (rightOf a c n false, true)
 else if op = 38 ∨ op = 30 ∨ op = 49 ∨ op = 44 then (rightOf a c n true, true)
 else if op = 53 ∨ op = 61 then (IntKind.u64.wrap (a * c), true)
 else if op = 57 ∨ op = 62 then (quoOf (cutOf a n true) (cutOf c n true) true, true)
 else if op = 58 ∨ op = 63 then (quoOf (cutOf a n false) (cutOf c n false) false, true)
 else if op = 59 ∨ op = 64 then (remOf (cutOf a n true) (cutOf c n true) true, true)
 else if op = 60 ∨ op = 65 then (remOf (cutOf a n false) (cutOf c n false) false, true)
 else (0, false)
def alu_two_sized.f (a0_0 : Int) (a0_1 : Int) (a0_2 : Int) (a1 : Int) : Option (Int × Bool) := if U64 a0_0 ∧ U64 a0_1 ∧ (a0_2 = 64 ∨ a0_2 = 32) then some (sizedOf a1 a0_0 a0_1 a0_2) else none
theorem sized_ret {op a c n : Int} {r : Int} {b : Bool} (h : sizedOf op a c n = (r, b)) : Ending.returned (.tuple #[.int .u64 r, .bool b]) = .returned (.tuple #[.int .u64 (sizedOf op a c n).1, .bool (sizedOf op a c n).2]) := by rw [h]
set_option maxHeartbeats 4000000 in
theorem alu_two_sized.c (a c n op : Int) (w : World) (hc : U64 a ∧ U64 c ∧ (n = 64 ∨ n = 32)) :
  Calls Tryz.prog 57 #[.agg #[.int .u64 a, .int .u64 c, .int .i64 n], .int .i64 op] w fun e w' => e = .returned (.tuple #[.int .u64 (sizedOf op a c n).1, .bool (sizedOf op a c n).2]) ∧ Below w.heap.size w w' := by
 have h1 := Lib.hid (fun W => alu_two_sum.calls a c n _ W rfl)
 have h2 := Lib.hid (fun W => alu_two_less.calls a c n _ W rfl)
 have h3 := Lib.hid (fun W => alu_two_left.calls a c n _ W (by unfold alu_two_left.f; rw [if_pos hc.2]))
 have h4 := Lib.hid (fun s W => alu_two_right.calls a c n s _ W (by unfold alu_two_right.f; rw [if_pos hc]))
 have h5 := Lib.hid (fun s W => alu_two_quo.calls a c n s _ W (by unfold alu_two_quo.f; rw [if_pos ⟨hc.1, hc.2.1⟩]))
 have h6 := Lib.hid (fun s W => alu_two_rem.calls a c n s _ W (by unfold alu_two_rem.f; rw [if_pos ⟨hc.1, hc.2.1⟩]))
 clear hc
 go_enter Tryz.func57, Tryz.ntmps57
 go_wp2_with (first | (go_at_call 84; refine (h1.out _).mono ?_; rintro e w1 ⟨rfl, hd⟩; have hd := Lib.hid hd) | (go_at_call 85; refine (h2.out _).mono ?_; rintro e w1 ⟨rfl, hd⟩; have hd := Lib.hid hd) | (go_at_call 86; refine (h3.out _).mono ?_; rintro e w1 ⟨rfl, hd⟩; have hd := Lib.hid hd) | (go_at_call 87; refine (h4.out _ _).mono ?_; rintro e w1 ⟨rfl, hd⟩; have hd := Lib.hid hd) | (go_at_call 88; refine (h5.out _ _).mono ?_; rintro e w1 ⟨rfl, hd⟩; have hd := Lib.hid hd) | (go_at_call 89; refine (h6.out _ _).mono ?_; rintro e w1 ⟨rfl, hd⟩; have hd := Lib.hid hd))
 all_goals go_ret2
 all_goals (refine ⟨sized_ret ?_, ?_⟩)
 all_goals (try (first | exact ((Below.refl _ _).alloc (Nat.le_refl _) _).trans (hd.out.mono (by simp)) | (go_grown; done)))
 all_goals simp only [beq_iff_eq, beq_eq_false_iff_ne, ne_eq] at *
 all_goals simp [sizedOf, *]
theorem alu_two_sized.calls (a0_0 : Int) (a0_1 : Int) (a0_2 : Int) (a1 : Int) (r1 : Int) (r2 : Bool) (w : World) (h : alu_two_sized.f a0_0 a0_1 a0_2 a1 = some (r1, r2)) :
  Calls Tryz.prog 57 #[.agg #[.int .u64 a0_0, .int .u64 a0_1, .int .i64 a0_2], .int .i64 a1] w fun e w' => e = .returned (.tuple #[.int .u64 r1, .bool r2]) ∧ Below w.heap.size w w' := by
 unfold alu_two_sized.f at h
 by_cases hc : U64 a0_0 ∧ U64 a0_1 ∧ (a0_2 = 64 ∨ a0_2 = 32)
 case neg => rw [if_neg hc] at h; simp at h
 rw [if_pos hc] at h
 have e := Option.some.inj h
 refine (alu_two_sized.c a0_0 a0_1 a0_2 a1 w hc).mono ?_
 rintro e2 w' ⟨rfl, hb⟩
 rw [e]
 exact ⟨rfl, hb⟩
def alu_one.f (a0 : Bool) : Option (Int) := if a0 = true then (some 1) else (some 0)
set_option maxHeartbeats 8000000 in
set_option maxRecDepth 100000 in
theorem alu_one.calls (a0 : Bool) (r : Int) (w : World) (h : alu_one.f a0 = some r) :
  Calls Tryz.prog 90 #[.bool a0] w fun e w' => e = .returned (.int .u64 r) ∧ Drawn0 w w' := by
 have H := h
 clear h
 unfold alu_one.f at H
 by_cases c2 : a0 = true
 ·subst c2
  rw [if_pos rfl] at H
  obtain rfl := Option.some.inj H
  go_enter Tryz.func90, Tryz.ntmps90
  go_wp2
  go_ret
  exact fd
 ·replace c2 := Bool.eq_false_iff.mpr c2
  subst c2
  rw [if_neg ff] at H
  obtain rfl := Option.some.inj H
  go_enter Tryz.func90, Tryz.ntmps90
  go_wp2
  go_ret
  exact fd
def bits_High.f (a0 : Int) (a1 : Int) (a2 : Bool) (a3 : Bool) : Option (Int) := if U64 a0 ∧ U64 a1 then some (hiOf a0 a1 a2 a3) else none
theorem and_low (a : Int) (h0 : 0 ≤ a) (h1 : a ≤ 18446744073709551615) : Go.bits .and .u64 a 4294967295 = a % 4294967296 := by
 have h := bits_mask .u64 64 (by decide) (fun n h0 h1 => by rw [IntKind.wrap_u64]; omega) 32 (by decide) a h0 (by omega)
 simpa using h
theorem hi_parts (a b : Int) (ha0 : 0 ≤ a) (ha : a ≤ 18446744073709551615) (hb0 : 0 ≤ b) (hb : b ≤ 18446744073709551615) :
  IntKind.u64.wrap (IntKind.u64.wrap (IntKind.u64.wrap (IntKind.u64.wrap (a / 4294967296 * (b / 4294967296)) + IntKind.u64.wrap (Go.bits .and .u64 a 4294967295 * (b / 4294967296)) / 4294967296) + IntKind.u64.wrap (a / 4294967296 * Go.bits .and .u64 b 4294967295) / 4294967296) +
   IntKind.u64.wrap (IntKind.u64.wrap (IntKind.u64.wrap (Go.bits .and .u64 a 4294967295 * Go.bits .and .u64 b 4294967295) / 4294967296 + Go.bits .and .u64 (IntKind.u64.wrap (Go.bits .and .u64 a 4294967295 * (b / 4294967296))) 4294967295) + Go.bits .and .u64 (IntKind.u64.wrap (a / 4294967296 * Go.bits .and .u64 b 4294967295)) 4294967295) / 4294967296) = a * b / 18446744073709551616 := by
 rw [and_low a ha0 ha, and_low b hb0 hb]
 obtain ⟨ah, al, rfl, h1, h2, h3, h4⟩ : ∃ ah al : Int, a = ah * 4294967296 + al ∧ 0 ≤ ah ∧ ah ≤ 4294967295 ∧ 0 ≤ al ∧ al ≤ 4294967295 := ⟨a / 4294967296, a % 4294967296, by omega, by omega, by omega, by omega, by omega⟩
 obtain ⟨bh, bl, rfl, h5, h6, h7, h8⟩ : ∃ bh bl : Int, b = bh * 4294967296 + bl ∧ 0 ≤ bh ∧ bh ≤ 4294967295 ∧ 0 ≤ bl ∧ bl ≤ 4294967295 := ⟨b / 4294967296, b % 4294967296, by omega, by omega, by omega, by omega, by omega⟩
 have e1 : (ah * 4294967296 + al) / 4294967296 = ah := by omega
 have e2 : (ah * 4294967296 + al) % 4294967296 = al := by omega
 have e3 : (bh * 4294967296 + bl) / 4294967296 = bh := by omega
 have e4 : (bh * 4294967296 + bl) % 4294967296 = bl := by omega
 rw [e1, e2, e3, e4]
 clear e1 e2 e3 e4
 have bd : ∀ x y : Int, 0 ≤ x → x ≤ 4294967295 → 0 ≤ y → y ≤ 4294967295 → 0 ≤ x * y ∧ x * y ≤ 18446744065119617025 := fun x y p q r s => ⟨Int.mul_nonneg p r, by have := Int.mul_le_mul q s r (by decide : (0 : Int) ≤ 4294967295); omega⟩
 have q0 := bd al bl h3 h4 h7 h8
 have q1 := bd al bh h3 h4 h5 h6
 have q2 := bd ah bl h1 h2 h7 h8
 have q3 := bd ah bh h1 h2 h5 h6
 have e : (ah * 4294967296 + al) * (bh * 4294967296 + bl) = ah * bh * 18446744073709551616 + (al * bh + ah * bl) * 4294967296 + al * bl := by
  have x1 : ah * 4294967296 * (bh * 4294967296) = ah * bh * 18446744073709551616 := by rw [← Int.mul_assoc, Int.mul_right_comm ah, Int.mul_assoc (ah * bh)]; rfl
  have x2 : ah * 4294967296 * bl = ah * bl * 4294967296 := by rw [Int.mul_right_comm]
  have x3 : al * (bh * 4294967296) = al * bh * 4294967296 := by rw [Int.mul_assoc]
  rw [Int.add_mul, Int.mul_add, Int.mul_add, x1, x2, x3]; omega
 rw [e]
 generalize al * bl = p0 at *
 generalize al * bh = p1 at *
 generalize ah * bl = p2 at *
 generalize ah * bh = p3 at *
 clear bd e h1 h2 h3 h4 h5 h6 h7 h8
 rw [and_low _ (by rw [IntKind.wrap_u64]; omega) (by rw [IntKind.wrap_u64]; omega), and_low _ (by rw [IntKind.wrap_u64]; omega) (by rw [IntKind.wrap_u64]; omega)]
 simp only [IntKind.wrap_u64]
 omega
set_option maxHeartbeats 1600000 in
theorem bits_High.calls (a0 : Int) (a1 : Int) (a2 : Bool) (a3 : Bool) (r : Int) (w : World) (h : bits_High.f a0 a1 a2 a3 = some r) :
  Calls Tryz.prog 91 #[.int .u64 a0, .int .u64 a1, .bool a2, .bool a3] w fun e w' => e = .returned (.int .u64 r) ∧ Below w.heap.size w w' := by
 unfold bits_High.f at h
 by_cases hc : U64 a0 ∧ U64 a1
 ·rw [if_pos hc] at h
  obtain rfl := Option.some.inj h
  clear h
  have HP := Lib.hid (hi_parts a0 a1 hc.1.1 hc.1.2 hc.2.1 hc.2.2)
  have HQ := Lib.hid (hi_range a0 a1 hc.1 hc.2)
  clear hc
  unfold U64 at HQ
  cases a2 <;> cases a3
  all_goals
   go_enter Tryz.func91, Tryz.ntmps91
   go_wp2
   go_rounds 3
   all_goals go_ret
   all_goals refine ⟨congrArg (fun x => Ending.returned (.int .u64 x)) ?_, (Below.refl _ _).alloc (Nat.le_refl _) _⟩
   all_goals go_light
   all_goals rw [HP.out]
   all_goals have hq := HQ.out
   all_goals clear HP HQ
   all_goals unfold hiOf
   all_goals generalize a0 * a1 / 18446744073709551616 = q at hq ⊢
   all_goals simp only [IntKind.wrap_u64, beq_iff_eq, beq_eq_false_iff_ne, ne_eq] at *
   all_goals simp [*]
   all_goals omega
 ·rw [if_neg hc] at h
  exact absurd h (by simp)
def oneOf (b : Bool) : Int := if b then 1 else 0
def othersOf (op a c : Int) : Int × Bool :=
 if op = 34 ∨ op = 23 then (oneOf (decide (wrap64 a < wrap64 c)), true)
 else if op = 35 ∨ op = 24 then (oneOf (decide (a < c)), true)
 else if op = 36 ∨ op = 25 then (Go.bits .xor .u64 a c, true)
 else if op = 39 ∨ op = 26 then (Go.bits .or .u64 a c, true)
 else if op = 40 ∨ op = 27 then (Go.bits .and .u64 a c, true)
 else if op = 54 then (hiOf a c true true, true)
 else if op = 55 then (hiOf a c true false, true)
 else if op = 56 then (hiOf a c false false, true)
 else (0, false)
def alu_two_others.f (a0_0 : Int) (a0_1 : Int) (a0_2 : Int) (a1 : Int) : Option (Int × Bool) := if U64 a0_0 ∧ U64 a0_1 then some (othersOf a1 a0_0 a0_1) else none
theorem others_ret {op a c : Int} {r : Int} {b : Bool} (h : othersOf op a c = (r, b)) : Ending.returned (.tuple #[.int .u64 r, .bool b]) = .returned (.tuple #[.int .u64 (othersOf op a c).1, .bool (othersOf op a c).2]) := by rw [h]
set_option maxHeartbeats 4000000 in
theorem alu_two_others.c (a c n op : Int) (w : World) (hc : U64 a ∧ U64 c) :
  Calls Tryz.prog 59 #[.agg #[.int .u64 a, .int .u64 c, .int .i64 n], .int .i64 op] w fun e w' => e = .returned (.tuple #[.int .u64 (othersOf op a c).1, .bool (othersOf op a c).2]) ∧ Below w.heap.size w w' := by
 have h1 : Hid (∀ b W, Calls Tryz.prog 90 #[.bool b] W fun e w' => e = .returned (.int .u64 (oneOf b)) ∧ Drawn0 W w') := fun b W => alu_one.calls b _ W (by unfold alu_one.f oneOf; cases b <;> rfl)
 have h2 := Lib.hid (fun sa sb W => bits_High.calls a c sa sb _ W (by unfold bits_High.f; rw [if_pos hc]))
 clear hc
 go_enter Tryz.func59, Tryz.ntmps59
 go_wp2_with (first | (go_at_call 90; refine (h1.out _ _).mono ?_; rintro e w1 ⟨rfl, ⟨nd, rfl⟩⟩) | (go_at_call 91; refine (h2.out _ _ _).mono ?_; rintro e w1 ⟨rfl, hd⟩; have hd := Lib.hid hd))
 all_goals go_ret2
 all_goals (refine ⟨others_ret ?_, ?_⟩)
 all_goals (try (first | exact ((Below.refl _ _).alloc (Nat.le_refl _) _).trans (hd.out.mono (by simp)) | exact below_drewN ((Below.refl _ _).alloc (Nat.le_refl _) _) _ | (go_grown; done)))
 all_goals simp only [beq_iff_eq, beq_eq_false_iff_ne, ne_eq] at *
 all_goals simp [othersOf, *]
theorem alu_two_others.calls (a0_0 : Int) (a0_1 : Int) (a0_2 : Int) (a1 : Int) (r1 : Int) (r2 : Bool) (w : World) (h : alu_two_others.f a0_0 a0_1 a0_2 a1 = some (r1, r2)) :
  Calls Tryz.prog 59 #[.agg #[.int .u64 a0_0, .int .u64 a0_1, .int .i64 a0_2], .int .i64 a1] w fun e w' => e = .returned (.tuple #[.int .u64 r1, .bool r2]) ∧ Below w.heap.size w w' := by
 unfold alu_two_others.f at h
 by_cases hc : U64 a0_0 ∧ U64 a0_1
 case neg => rw [if_neg hc] at h; simp at h
 rw [if_pos hc] at h
 have e := Option.some.inj h
 refine (alu_two_others.c a0_0 a0_1 a0_2 a1 w hc).mono ?_
 rintro e2 w' ⟨rfl, hb⟩
 rw [e]
 exact ⟨rfl, hb⟩
def immB (op : Int) : Bool := decide (22 ≤ op ∧ op ≤ 30 ∨ 41 ≤ op ∧ op ≤ 44)
def shortB (op : Int) : Bool := decide (41 ≤ op ∧ op ≤ 49 ∨ 61 ≤ op ∧ op ≤ 65)
def valueAt (op imm pc a C : Int) : Int × Int :=
 if op = 1 then (IntKind.u64.wrap imm, 0) else if op = 2 then (IntKind.u64.wrap (pc + IntKind.u64.wrap imm), 0) else if op = 3 ∨ op = 4 then (IntKind.u64.wrap (pc + 4), 0)
 else if shortB op = true then (signOf (sizedOf op a C 32).1 32, 0) else if (sizedOf op a C 64).2 = true then ((sizedOf op a C 64).1, 0) else if (othersOf op a C).2 = true then ((othersOf op a C).1, 0) else (0, 80)
theorem sized_range (op a C n : Int) (ha : U64 a) (hC : U64 C) : U64 (sizedOf op a C n).1 := by
 have r : ∀ s, U64 (rightOf a C n s) := by
  intro s
  unfold rightOf rsh
  have h := cut_range a n s ha
  cases s
  ·have hp := ipos (C % n).toNat
   unfold U64 at *
   simp only [Bool.false_eq_true, if_false]
   exact ⟨Int.ediv_nonneg h.1 (by omega), Int.le_trans (Int.ediv_le_self _ h.1) h.2⟩
  ·simp only [if_true]; exact U64.wrap _
 have q : ∀ s, U64 (quoOf (cutOf a n s) (cutOf C n s) s) := by
  intro s
  have h1 := cut_range a n s ha
  have h2 := cut_range C n s hC
  unfold quoOf
  split
  ·decide
  split
  ·exact U64.wrap _
  ·unfold U64 at *; exact ⟨Int.ediv_nonneg h1.1 h2.1, Int.le_trans (Int.ediv_le_self _ h1.1) h1.2⟩
 have m : ∀ s, U64 (remOf (cutOf a n s) (cutOf C n s) s) := by
  intro s
  have h1 := cut_range a n s ha
  have h2 := cut_range C n s hC
  unfold remOf
  split
  ·exact h1
  split
  ·exact U64.wrap _
  ·rename_i h0 _
   unfold U64 at *
   have p : 0 < cutOf C n s := by omega
   exact ⟨Int.emod_nonneg _ h0, by have := Int.emod_lt_of_pos (cutOf a n s) p; omega⟩
 unfold sizedOf
 repeat' split
 all_goals dsimp only
 all_goals (first | exact U64.wrap _ | exact r _ | exact q _ | exact m _ | (unfold U64; omega))
set_option maxHeartbeats 4000000 in
theorem alu_Value.w (op rd rs1 rs2 imm pc a b C x32 x64 y z : Int) (aq rl bI bS k32 k64 ky : Bool) (w : World)
  (hG : Hid (∀ W, Calls Tryz.prog 39 #[.agg #[.int .i64 op, .int .i64 rd, .int .i64 rs1, .int .i64 rs2, .int .i64 imm, .bool aq, .bool rl]] W fun e w' => e = .returned (.bool true) ∧ Below W.heap.size W w'))
  (hI : Hid (∀ W, Calls Tryz.prog 55 #[.int .i64 op] W fun e w' => e = .returned (.bool bI) ∧ Drawn0 W w'))
  (hSh : Hid (∀ W, Calls Tryz.prog 56 #[.int .i64 op] W fun e w' => e = .returned (.bool bS) ∧ Drawn0 W w'))
  (h32 : Hid (∀ W, Calls Tryz.prog 57 #[.agg #[.int .u64 a, .int .u64 C, .int .i64 32], .int .i64 op] W fun e w' => e = .returned (.tuple #[.int .u64 x32, .bool k32]) ∧ Below W.heap.size W w'))
  (h64 : Hid (∀ W, Calls Tryz.prog 57 #[.agg #[.int .u64 a, .int .u64 C, .int .i64 64], .int .i64 op] W fun e w' => e = .returned (.tuple #[.int .u64 x64, .bool k64]) ∧ Below W.heap.size W w'))
  (hO : Hid (∀ W, Calls Tryz.prog 59 #[.agg #[.int .u64 a, .int .u64 C, .int .i64 64], .int .i64 op] W fun e w' => e = .returned (.tuple #[.int .u64 y, .bool ky]) ∧ Below W.heap.size W w'))
  (hZ : Hid (∀ W, Calls Tryz.prog 58 #[.int .u64 x32, .int .i64 32] W fun e w' => e = .returned (.int .u64 z) ∧ Drawn0 W w'))
  (hC : Hid (C = if bI = true then IntKind.u64.wrap imm else b)) (R E : Int)
  (hR : Hid ((R, E) = if op = 1 then (IntKind.u64.wrap imm, 0) else if op = 2 then (IntKind.u64.wrap (pc + IntKind.u64.wrap imm), 0) else if op = 3 ∨ op = 4 then (IntKind.u64.wrap (pc + 4), 0) else if bS = true then (z, 0) else if k64 = true then (x64, 0) else if ky = true then (y, 0) else (0, 80))) :
  Calls Tryz.prog 28 #[.agg #[.int .i64 op, .int .i64 rd, .int .i64 rs1, .int .i64 rs2, .int .i64 imm, .bool aq, .bool rl], .int .u64 pc, .int .u64 a, .int .u64 b] w fun e w' => e = .returned (.tuple #[.int .u64 R, .int .i64 E]) ∧ Below w.heap.size w w' := by
 have cs : op = 1 ∨ op = 2 ∨ op = 3 ∨ op = 4 ∨ (op ≠ 1 ∧ op ≠ 2 ∧ op ≠ 3 ∧ op ≠ 4) ∧ bS = true ∨ (op ≠ 1 ∧ op ≠ 2 ∧ op ≠ 3 ∧ op ≠ 4) ∧ bS = false ∧ k64 = true ∨ (op ≠ 1 ∧ op ≠ 2 ∧ op ≠ 3 ∧ op ≠ 4) ∧ bS = false ∧ k64 = false ∧ ky = true ∨ (op ≠ 1 ∧ op ≠ 2 ∧ op ≠ 3 ∧ op ≠ 4) ∧ bS = false ∧ k64 = false ∧ ky = false := by
  cases bS <;> cases k64 <;> cases ky <;> simp <;> omega
 cases bI
 all_goals (
  have hC := hC.out
  simp only [if_true, Bool.false_eq_true, if_false] at hC
  subst hC
  rcases cs with rfl | rfl | rfl | rfl | ⟨⟨o1, o2, o3, o4⟩, rfl⟩ | ⟨⟨o1, o2, o3, o4⟩, rfl, rfl⟩ | ⟨⟨o1, o2, o3, o4⟩, rfl, rfl, rfl⟩ | ⟨⟨o1, o2, o3, o4⟩, rfl, rfl, rfl⟩)
 all_goals (
  have hR := hR.out
  simp [*] at hR
  obtain ⟨rfl, rfl⟩ := hR
  go_enter Tryz.func28, Tryz.ntmps28
  go_wp2_with fail
  refine (hG.out _).mono ?_
  rintro e w1 ⟨rfl, hb⟩
  have B1 := (Blk.new w _ _).below hb
  have hb := Lib.hid ((((Below.refl w.heap.size w).alloc (Nat.le_refl _) _).trans (hb.mono (by simp))))
  have c1 := B1.cell
  have l1 := B1.lt
  have B1 := Lib.hid B1
  go_wp2_with fail
  generalize hX : World.alloc w1 _ = X
  have K1 := B1.out.alloc_eq hX
  have K2 := Blk.new_eq hX
  have HX := Lib.hid (below_alloc_eq hb.out hb.out.size hX)
  have hsz : w.heap.size ≤ w1.heap.size := hb.out.size
  have hez : X.heap.size = w1.heap.size + 1 := by rw [← hX, World.size_alloc]
  clear hX c1 B1 hb
  have k1 := K1.cell
  have k2 := K2.cell
  have f2 := K2.frozen
  clear K1 K2
  go_wp2_with (first | (go_at_call 55; refine (hI.out _).mono ?_; rintro e w3 ⟨rfl, ⟨nd, rfl⟩⟩) | (go_at_call 56; refine (hSh.out _).mono ?_; rintro e w3 ⟨rfl, ⟨nd, rfl⟩⟩) | (go_at_call 58; refine (hZ.out _).mono ?_; rintro e w3 ⟨rfl, ⟨nd, rfl⟩⟩) | (go_at_call 57; (with_reducible first | refine (h32.out _).mono ?_ | refine (h64.out _).mono ?_); rintro e w5 ⟨rfl, hd⟩; obtain ⟨bc, bf⟩ := bcell hd; have s5 := hd.size; simp at s5; have hd := Lib.hid hd) | (go_at_call 59; refine (hO.out _).mono ?_; rintro e w6 ⟨rfl, he⟩; have he := Lib.hid he))
  all_goals (
   go_ret2
   refine ⟨rfl, ?_⟩
   (try refine Below.trans ?_ (he.out.mono (by (try simp); omega)))
   repeat (first | exact HX.out | apply below_drewN | (refine Below.setCell ?_ (by simp; omega) _) | (refine Below.trans ?_ (hd.out.mono (by (try simp); omega))))))
def valueOf (op imm pc a b : Int) : Int × Int := valueAt op imm pc a (if immB op = true then IntKind.u64.wrap imm else b)
def alu_Value.f (a0_0 : Int) (a0_1 : Int) (a0_2 : Int) (a0_3 : Int) (a0_4 : Int) (a0_5 : Bool) (a0_6 : Bool) (a1 : Int) (a2 : Int) (a3 : Int) : Option (Int × Int) := if I64 a0_4 ∧ U64 a2 ∧ U64 a3 then (if goodOf a0_0 a0_1 a0_2 a0_3 a0_4 a0_5 a0_6 = true then some (valueOf a0_0 a0_4 a1 a2 a3) else some (0, 20)) else none
set_option maxHeartbeats 1000000 in
theorem alu_Value.n (a0_0 a0_1 a0_2 a0_3 a0_4 pc a b : Int) (a0_5 a0_6 : Bool) (w : World)
  (hG : Hid (∀ W, Calls Tryz.prog 39 #[.agg #[.int .i64 a0_0, .int .i64 a0_1, .int .i64 a0_2, .int .i64 a0_3, .int .i64 a0_4, .bool a0_5, .bool a0_6]] W fun e w' => e = .returned (.bool false) ∧ Below W.heap.size W w')) :
  Calls Tryz.prog 28 #[.agg #[.int .i64 a0_0, .int .i64 a0_1, .int .i64 a0_2, .int .i64 a0_3, .int .i64 a0_4, .bool a0_5, .bool a0_6], .int .u64 pc, .int .u64 a, .int .u64 b] w fun e w' => e = .returned (.tuple #[.int .u64 0, .int .i64 20]) ∧ Below w.heap.size w w' := by
 go_enter Tryz.func28, Tryz.ntmps28
 go_wp2_with fail
 refine (hG.out _).mono ?_
 rintro e w1 ⟨rfl, hb⟩
 have hb := Lib.hid ((((Below.refl w.heap.size w).alloc (Nat.le_refl _) _).trans (hb.mono (by simp))))
 go_wp2_with fail
 go_ret2
 exact ⟨rfl, hb.out⟩
theorem alu_Value.calls (a0_0 : Int) (a0_1 : Int) (a0_2 : Int) (a0_3 : Int) (a0_4 : Int) (a0_5 : Bool) (a0_6 : Bool) (a1 : Int) (a2 : Int) (a3 : Int) (r1 : Int) (r2 : Int) (w : World) (h : alu_Value.f a0_0 a0_1 a0_2 a0_3 a0_4 a0_5 a0_6 a1 a2 a3 = some (r1, r2)) :
  Calls Tryz.prog 28 #[.agg #[.int .i64 a0_0, .int .i64 a0_1, .int .i64 a0_2, .int .i64 a0_3, .int .i64 a0_4, .bool a0_5, .bool a0_6], .int .u64 a1, .int .u64 a2, .int .u64 a3] w fun e w' => e = .returned (.tuple #[.int .u64 r1, .int .i64 r2]) ∧ Below w.heap.size w w' := by
 unfold alu_Value.f at h
 by_cases hc : I64 a0_4 ∧ U64 a2 ∧ U64 a3
 case neg => rw [if_neg hc] at h; simp at h
 rw [if_pos hc] at h
 obtain ⟨hI, ha, hb⟩ := hc
 have gc := fun b hb => Lib.hid (fun W => inst_Good.calls a0_0 a0_1 a0_2 a0_3 a0_4 a0_5 a0_6 b W (by unfold inst_Good.f; rw [if_pos hI]; exact congrArg some hb))
 by_cases hg : goodOf a0_0 a0_1 a0_2 a0_3 a0_4 a0_5 a0_6 = true
 ·rw [if_pos hg] at h
  have e := Option.some.inj h
  have hC : U64 (if immB a0_0 = true then IntKind.u64.wrap a0_4 else a3) := by split; exact U64.wrap _; exact hb
  refine alu_Value.w a0_0 a0_1 a0_2 a0_3 a0_4 a1 a2 a3 (if immB a0_0 = true then IntKind.u64.wrap a0_4 else a3) _ _ _ _ a0_5 a0_6 (immB a0_0) (shortB a0_0) _ _ _ w (gc true hg)
   (fun W => alu_imm.calls _ _ W (by unfold alu_imm.f immB; by_cases h1 : 22 ≤ a0_0 <;> by_cases h2 : a0_0 ≤ 30 <;> by_cases h3 : 41 ≤ a0_0 <;> by_cases h4 : a0_0 ≤ 44 <;> simp [h1, h2, h3, h4] <;> omega))
   (fun W => alu_short.calls _ _ W (by unfold alu_short.f shortB; by_cases h1 : 41 ≤ a0_0 <;> by_cases h2 : a0_0 ≤ 49 <;> by_cases h3 : 61 ≤ a0_0 <;> by_cases h4 : a0_0 ≤ 65 <;> simp [h1, h2, h3, h4] <;> omega))
   (fun W => alu_two_sized.c _ _ 32 _ W ⟨ha, hC, .inr rfl⟩) (fun W => alu_two_sized.c _ _ 64 _ W ⟨ha, hC, .inl rfl⟩) (fun W => alu_two_others.c _ _ 64 _ W ⟨ha, hC⟩)
   (fun W => bits_Sign.calls _ _ _ W (by unfold bits_Sign.f; rw [if_pos (sized_range _ _ _ _ ha hC)])) rfl r1 r2 ?_
  exact (e.symm : _)
 ·have hg' : goodOf a0_0 a0_1 a0_2 a0_3 a0_4 a0_5 a0_6 = false := by simpa using hg
  rw [if_neg hg] at h
  simp only [Option.some.injEq, Prod.mk.injEq] at h
  obtain ⟨rfl, rfl⟩ := h
  exact alu_Value.n a0_0 a0_1 a0_2 a0_3 a0_4 a1 a2 a3 a0_5 a0_6 w (gc false hg')
def alu_Target.j0 : Nat → Int → Int → Bool → Int → Int → Int → Int → Int → Bool → Bool → Option (Int)
 | 0, _, _, _, _, _, _, _, _, _, _ => none
 | k + 1, x1, x2, x7, x217000, x217001, x217002, x217003, x217004, x217005, x217006 => if x7 = true then (some (IntKind.u64.wrap (x1 + (IntKind.u64.wrap (x217004))))) else (if x217000 = 4 then (some (Go.bits .andNot .u64 (IntKind.u64.wrap (x2 + (IntKind.u64.wrap (x217004)))) 1)) else (some (IntKind.u64.wrap (x1 + 4))))
def alu_Target.f (k : Nat) (a0_0 : Int) (a0_1 : Int) (a0_2 : Int) (a0_3 : Int) (a0_4 : Int) (a0_5 : Bool) (a0_6 : Bool) (a1 : Int) (a2 : Int) : Option (Int) := if a0_0 = 3 then (alu_Target.j0 k a1 a2 (a0_0 == 3) a0_0 a0_1 a0_2 a0_3 a0_4 a0_5 a0_6) else (if a0_0 ≥ 5 then (alu_Target.j0 k a1 a2 (decide (a0_0 ≤ 10)) a0_0 a0_1 a0_2 a0_3 a0_4 a0_5 a0_6) else (alu_Target.j0 k a1 a2 false a0_0 a0_1 a0_2 a0_3 a0_4 a0_5 a0_6))
theorem alu_Target.mono_l : ∀ k, (∀ y0 y1 y2 y3 y4 y5 y6 y7 y8 y9, LeO (alu_Target.j0 k y0 y1 y2 y3 y4 y5 y6 y7 y8 y9) (alu_Target.j0 (k + 1) y0 y1 y2 y3 y4 y5 y6 y7 y8 y9))
 | 0 => fun _ _ _ _ _ _ _ _ _ _ r h => by simp [alu_Target.j0] at h
 | k + 1 => by
  have ih0 := alu_Target.mono_l k
  ·intro y0 y1 y2 y3 y4 y5 y6 y7 y8 y9
   unfold alu_Target.j0
   exact leo
theorem alu_Target.mono : ∀ a0 a1 a2 a3 a4 a5 a6 a7 a8 k, LeO (alu_Target.f k a0 a1 a2 a3 a4 a5 a6 a7 a8) (alu_Target.f (k + 1) a0 a1 a2 a3 a4 a5 a6 a7 a8) := by
 intro a0 a1 a2 a3 a4 a5 a6 a7 a8 k
 have ih0 := alu_Target.mono_l k
 unfold alu_Target.f
 exact leo
set_option maxHeartbeats 8000000 in
set_option maxRecDepth 100000 in
theorem alu_Target.calls (k : Nat) (a0_0 : Int) (a0_1 : Int) (a0_2 : Int) (a0_3 : Int) (a0_4 : Int) (a0_5 : Bool) (a0_6 : Bool) (a1 : Int) (a2 : Int) (r : Int) (w : World) (h : alu_Target.f k a0_0 a0_1 a0_2 a0_3 a0_4 a0_5 a0_6 a1 a2 = some r) :
  Calls Tryz.prog 29 #[.agg #[.int .i64 a0_0, .int .i64 a0_1, .int .i64 a0_2, .int .i64 a0_3, .int .i64 a0_4, .bool a0_5, .bool a0_6], .int .u64 a1, .int .u64 a2] w fun e w' => e = .returned (.int .u64 r) ∧ Below w.heap.size w w' := by
 have hu50 := Tryz.underlying50
 have HB := am (Below.refl w.heap.size w)
 have H := h
 clear h
 unfold alu_Target.f at H
 have HC4 := am H
 clear H
 go_enter Tryz.func29, Tryz.ntmps29
 go_upto_if 7 with (first | ((with_reducible refine gate_dst (N := 3) rfl ?_); refine be 3 50 #[.int .i64 a0_0, .int .i64 a0_1, .int .i64 a0_2, .int .i64 a0_3, .int .i64 a0_4, .bool a0_5, .bool a0_6] ?_; intro gb216 hg w5 hbox hb; have BK216 := am hbox; have GW216 := bz HB hg; have GE216 := bz HB hg; replace HB := bn HB hb; clear hb hbox hg; obtain ⟨z6_0, z6_1, z6_2, z6_3, z6_4, z6_5, z6_6, f6_0, f6_1, f6_2, f6_3, f6_4, f6_5, f6_6⟩ := cf7 BK216))
 (try simp only [Act.put, List.setIfInBounds_toArray, List.set_cons_zero, List.set_cons_succ])
 go_cut [7] (fun v7 wc => ∃ (kq : Nat) (x7_3 : Bool), v7 = .bool x7_3 ∧ Aside0 (alu_Target.j0 kq a1 a2 x7_3 a0_0 a0_1 a0_2 a0_3 a0_4 a0_5 a0_6 = some r) ∧ Aside0 (kq ≤ k) ∧ Aside0 (wc.heap[gb216]? = some (.cells #[.int .i64 a0_0, .int .i64 a0_1, .int .i64 a0_2, .int .i64 a0_3, .int .i64 a0_4, .bool a0_5, .bool a0_6] 50 (0, 0))) ∧ Aside0 (Below w.heap.size w wc))
 case first =>
  have H := HC4.out
  clear HC4
  by_cases c7 : a0_0 = 3
  ·rw [if_pos c7] at H
   obtain ⟨c7b0, c7b1⟩ := bqt c7
   clear c7
   (first | rw [c7b0] | (simp only [i64_w, i32_w]; rw [c7b0]) | skip)
   have H' := am H
   clear H
   go_wp2
   go_meet
   case rel => exact ⟨_, ((a0_0 == 3)), fr, H', ⟨om⟩, ⟨bu BK216⟩, ⟨bs HB GE216⟩⟩
  ·rw [if_neg c7] at H
   obtain ⟨c7b0, c7b1⟩ := bqf c7
   (first | rw [c7b0] | (simp only [i64_w, i32_w]; rw [c7b0]) | skip)
   by_cases c8 : a0_0 ≥ 5
   ·rw [if_pos c8] at H
    have c8b0 : decide (5 ≤ a0_0) = true := decide_eq_true c8
    clear c8
    have H' := am H
    clear H
    obtain ⟨z9_0, z9_1, z9_2, z9_3, z9_4, z9_5, z9_6, f9_0, f9_1, f9_2, f9_3, f9_4, f9_5, f9_6⟩ := cf7 BK216
    go_wp2
    go_meet
    case rel => exact ⟨_, (decide (a0_0 ≤ 10)), fr, H', ⟨om⟩, ⟨bu BK216⟩, ⟨bs HB GE216⟩⟩
   ·rw [if_neg c8] at H
    have c8b0 : decide (5 ≤ a0_0) = false := decide_eq_false c8
    clear c8
    have H' := am H
    clear H
    obtain ⟨z10_0, z10_1, z10_2, z10_3, z10_4, z10_5, z10_6, f10_0, f10_1, f10_2, f10_3, f10_4, f10_5, f10_6⟩ := cf7 BK216
    go_wp2
    go_meet
    case rel => exact ⟨_, (false), fr, H', ⟨om⟩, ⟨bu BK216⟩, ⟨bs HB GE216⟩⟩
 case rest =>
  clear HC4
  try clear c2
  try clear p2
  try clear c7
  try clear c7b0
  try clear c7b1
  try clear c8
  try clear c8b0
  try clear z10_0
  try clear z10_1
  try clear z10_2
  try clear z10_3
  try clear z10_4
  try clear z10_5
  try clear z10_6
  try clear z6_0
  try clear z6_1
  try clear z6_2
  try clear z6_3
  try clear z6_4
  try clear z6_5
  try clear z6_6
  try clear z9_0
  try clear z9_1
  try clear z9_2
  try clear z9_3
  try clear z9_4
  try clear z9_5
  try clear z9_6
  try clear f10_0
  try clear f10_1
  try clear f10_2
  try clear f10_3
  try clear f10_4
  try clear f10_5
  try clear f10_6
  try clear f6_0
  try clear f6_1
  try clear f6_2
  try clear f6_3
  try clear f6_4
  try clear f6_5
  try clear f6_6
  try clear f9_0
  try clear f9_1
  try clear f9_2
  try clear f9_3
  try clear f9_4
  try clear f9_5
  try clear f9_6
  obtain ⟨kq, x7_3, rfl, HA, HJ3, BK216, HB⟩ := hcut
  cases kq with
  | zero => exact absurd HA.out (by simp [alu_Target.j0])
  | succ kj3 =>
   have H := HA.out
   clear HA
   simp only [alu_Target.j0] at H
   by_cases c11 : x7_3 = true
   ·subst c11
    rw [if_pos rfl] at H
    obtain rfl := Option.some.inj H
    obtain ⟨z12_0, z12_1, z12_2, z12_3, z12_4, z12_5, z12_6, f12_0, f12_1, f12_2, f12_3, f12_4, f12_5, f12_6⟩ := cf7 BK216
    go_wp2
    go_ret
    exact ⟨fe, bs HB GE216⟩
   ·replace c11 := Bool.eq_false_iff.mpr c11
    subst c11
    rw [if_neg ff] at H
    by_cases c13 : a0_0 = 4
    ·rw [if_pos c13] at H
     obtain ⟨c13b0, c13b1⟩ := bqt c13
     clear c13
     obtain rfl := Option.some.inj H
     obtain ⟨z14_0, z14_1, z14_2, z14_3, z14_4, z14_5, z14_6, f14_0, f14_1, f14_2, f14_3, f14_4, f14_5, f14_6⟩ := cf7 BK216
     go_wp2
     go_ret
     exact ⟨fe, bs HB GE216⟩
    ·rw [if_neg c13] at H
     obtain ⟨c13b0, c13b1⟩ := bqf c13
     obtain rfl := Option.some.inj H
     obtain ⟨z15_0, z15_1, z15_2, z15_3, z15_4, z15_5, z15_6, f15_0, f15_1, f15_2, f15_3, f15_4, f15_5, f15_6⟩ := cf7 BK216
     go_wp2
     go_ret
     exact ⟨fe, bs HB GE216⟩
def alu_Taken.f (a0_0 : Int) (a0_1 : Int) (a0_2 : Int) (a0_3 : Int) (a0_4 : Int) (a0_5 : Bool) (a0_6 : Bool) (a1 : Int) (a2 : Int) : Option (Bool) := (inst_Good.f a0_0 a0_1 a0_2 a0_3 a0_4 a0_5 a0_6).bind fun t218 => (if t218 = true then (if a0_0 = 5 then (some (a1 == a2)) else (if a0_0 = 6 then (some (a1 != a2)) else (if a0_0 = 7 then (some (decide ((wrap64 (a1)) < (wrap64 (a2))))) else (if a0_0 = 8 then (some (decide ((wrap64 (a1)) ≥ (wrap64 (a2))))) else (if a0_0 = 9 then (some (decide (a1 < a2))) else (if a0_0 = 10 then (some (decide (a1 ≥ a2))) else (some false))))))) else (some false))
set_option maxHeartbeats 8000000 in
set_option maxRecDepth 100000 in
theorem alu_Taken.calls (a0_0 : Int) (a0_1 : Int) (a0_2 : Int) (a0_3 : Int) (a0_4 : Int) (a0_5 : Bool) (a0_6 : Bool) (a1 : Int) (a2 : Int) (r : Bool) (w : World) (h : alu_Taken.f a0_0 a0_1 a0_2 a0_3 a0_4 a0_5 a0_6 a1 a2 = some r) :
  Calls Tryz.prog 30 #[.agg #[.int .i64 a0_0, .int .i64 a0_1, .int .i64 a0_2, .int .i64 a0_3, .int .i64 a0_4, .bool a0_5, .bool a0_6], .int .u64 a1, .int .u64 a2] w fun e w' => e = .returned (.bool r) ∧ Below w.heap.size w w' := by
 have hu50 := Tryz.underlying50
 have HB := am (Below.refl w.heap.size w)
 have H := h
 clear h
 unfold alu_Taken.f at H
 obtain ⟨t218, A4, H⟩ := bam H
 try dsimp only at H
 by_cases c5 : t218 = true
 ·subst c5
  rw [if_pos rfl] at H
  by_cases c6 : a0_0 = 5
  ·rw [if_pos c6] at H
   obtain ⟨c6b0, c6b1⟩ := bqt c6
   clear c6
   obtain rfl := Option.some.inj H
   go_enter Tryz.func30, Tryz.ntmps30
   go_wp2_with (first | ((with_reducible refine gate_dst (N := 3) rfl ?_); refine be 3 50 #[.int .i64 a0_0, .int .i64 a0_1, .int .i64 a0_2, .int .i64 a0_3, .int .i64 a0_4, .bool a0_5, .bool a0_6] ?_; intro gb217 hg w7 hbox hb; have BK217 := am hbox; have GW217 := bz HB hg; have GE217 := bz HB hg; replace HB := bn HB hb; clear hb hbox hg; obtain ⟨z8_0, z8_1, z8_2, z8_3, z8_4, z8_5, z8_6, f8_0, f8_1, f8_2, f8_3, f8_4, f8_5, f8_6⟩ := cf7 BK217) | ((with_reducible refine gate_callee (f := 39) rfl ?_); refine gl (some 8) rfl rfl Tryz.func39 rfl #[.agg #[.int .i64 a0_0, .int .i64 a0_1, .int .i64 a0_2, .int .i64 a0_3, .int .i64 a0_4, .bool a0_5, .bool a0_6]] rfl ?_; (with_reducible refine (inst_Good.calls a0_0 a0_1 a0_2 a0_3 a0_4 a0_5 a0_6 true _ A4.out).mono ?_); rintro e w9 ⟨rfl, hb⟩; refine ⟨_, rfl, ?_⟩; replace BK217 := bk BK217 hb; replace HB := bns HB GE217 hb; (try clear hb); (try clear hb2); (try clear hk); (try clear hi); obtain ⟨z10_0, z10_1, z10_2, z10_3, z10_4, z10_5, z10_6, f10_0, f10_1, f10_2, f10_3, f10_4, f10_5, f10_6⟩ := cf7 BK217))
   go_ret
   exact ⟨fe, bs HB GE217⟩
  ·rw [if_neg c6] at H
   obtain ⟨c6b0, c6b1⟩ := bqf c6
   by_cases c11 : a0_0 = 6
   ·rw [if_pos c11] at H
    obtain ⟨c11b0, c11b1⟩ := bqt c11
    clear c11
    obtain rfl := Option.some.inj H
    go_enter Tryz.func30, Tryz.ntmps30
    go_wp2_with (first | ((with_reducible refine gate_dst (N := 3) rfl ?_); refine be 3 50 #[.int .i64 a0_0, .int .i64 a0_1, .int .i64 a0_2, .int .i64 a0_3, .int .i64 a0_4, .bool a0_5, .bool a0_6] ?_; intro gb217 hg w12 hbox hb; have BK217 := am hbox; have GW217 := bz HB hg; have GE217 := bz HB hg; replace HB := bn HB hb; clear hb hbox hg; obtain ⟨z13_0, z13_1, z13_2, z13_3, z13_4, z13_5, z13_6, f13_0, f13_1, f13_2, f13_3, f13_4, f13_5, f13_6⟩ := cf7 BK217) | ((with_reducible refine gate_callee (f := 39) rfl ?_); refine gl (some 8) rfl rfl Tryz.func39 rfl #[.agg #[.int .i64 a0_0, .int .i64 a0_1, .int .i64 a0_2, .int .i64 a0_3, .int .i64 a0_4, .bool a0_5, .bool a0_6]] rfl ?_; (with_reducible refine (inst_Good.calls a0_0 a0_1 a0_2 a0_3 a0_4 a0_5 a0_6 true _ A4.out).mono ?_); rintro e w14 ⟨rfl, hb⟩; refine ⟨_, rfl, ?_⟩; replace BK217 := bk BK217 hb; replace HB := bns HB GE217 hb; (try clear hb); (try clear hb2); (try clear hk); (try clear hi); obtain ⟨z15_0, z15_1, z15_2, z15_3, z15_4, z15_5, z15_6, f15_0, f15_1, f15_2, f15_3, f15_4, f15_5, f15_6⟩ := cf7 BK217))
    go_ret
    exact ⟨fe, bs HB GE217⟩
   ·rw [if_neg c11] at H
    obtain ⟨c11b0, c11b1⟩ := bqf c11
    by_cases c16 : a0_0 = 7
    ·rw [if_pos c16] at H
     obtain ⟨c16b0, c16b1⟩ := bqt c16
     clear c16
     obtain rfl := Option.some.inj H
     go_enter Tryz.func30, Tryz.ntmps30
     go_wp2_with (first | ((with_reducible refine gate_dst (N := 3) rfl ?_); refine be 3 50 #[.int .i64 a0_0, .int .i64 a0_1, .int .i64 a0_2, .int .i64 a0_3, .int .i64 a0_4, .bool a0_5, .bool a0_6] ?_; intro gb217 hg w17 hbox hb; have BK217 := am hbox; have GW217 := bz HB hg; have GE217 := bz HB hg; replace HB := bn HB hb; clear hb hbox hg; obtain ⟨z18_0, z18_1, z18_2, z18_3, z18_4, z18_5, z18_6, f18_0, f18_1, f18_2, f18_3, f18_4, f18_5, f18_6⟩ := cf7 BK217) | ((with_reducible refine gate_callee (f := 39) rfl ?_); refine gl (some 8) rfl rfl Tryz.func39 rfl #[.agg #[.int .i64 a0_0, .int .i64 a0_1, .int .i64 a0_2, .int .i64 a0_3, .int .i64 a0_4, .bool a0_5, .bool a0_6]] rfl ?_; (with_reducible refine (inst_Good.calls a0_0 a0_1 a0_2 a0_3 a0_4 a0_5 a0_6 true _ A4.out).mono ?_); rintro e w19 ⟨rfl, hb⟩; refine ⟨_, rfl, ?_⟩; replace BK217 := bk BK217 hb; replace HB := bns HB GE217 hb; (try clear hb); (try clear hb2); (try clear hk); (try clear hi); obtain ⟨z20_0, z20_1, z20_2, z20_3, z20_4, z20_5, z20_6, f20_0, f20_1, f20_2, f20_3, f20_4, f20_5, f20_6⟩ := cf7 BK217))
     go_ret
     exact ⟨fe, bs HB GE217⟩
    ·rw [if_neg c16] at H
     obtain ⟨c16b0, c16b1⟩ := bqf c16
     by_cases c21 : a0_0 = 8
     ·rw [if_pos c21] at H
      obtain ⟨c21b0, c21b1⟩ := bqt c21
      clear c21
      obtain rfl := Option.some.inj H
      go_enter Tryz.func30, Tryz.ntmps30
      go_wp2_with (first | ((with_reducible refine gate_dst (N := 3) rfl ?_); refine be 3 50 #[.int .i64 a0_0, .int .i64 a0_1, .int .i64 a0_2, .int .i64 a0_3, .int .i64 a0_4, .bool a0_5, .bool a0_6] ?_; intro gb217 hg w22 hbox hb; have BK217 := am hbox; have GW217 := bz HB hg; have GE217 := bz HB hg; replace HB := bn HB hb; clear hb hbox hg; obtain ⟨z23_0, z23_1, z23_2, z23_3, z23_4, z23_5, z23_6, f23_0, f23_1, f23_2, f23_3, f23_4, f23_5, f23_6⟩ := cf7 BK217) | ((with_reducible refine gate_callee (f := 39) rfl ?_); refine gl (some 8) rfl rfl Tryz.func39 rfl #[.agg #[.int .i64 a0_0, .int .i64 a0_1, .int .i64 a0_2, .int .i64 a0_3, .int .i64 a0_4, .bool a0_5, .bool a0_6]] rfl ?_; (with_reducible refine (inst_Good.calls a0_0 a0_1 a0_2 a0_3 a0_4 a0_5 a0_6 true _ A4.out).mono ?_); rintro e w24 ⟨rfl, hb⟩; refine ⟨_, rfl, ?_⟩; replace BK217 := bk BK217 hb; replace HB := bns HB GE217 hb; (try clear hb); (try clear hb2); (try clear hk); (try clear hi); obtain ⟨z25_0, z25_1, z25_2, z25_3, z25_4, z25_5, z25_6, f25_0, f25_1, f25_2, f25_3, f25_4, f25_5, f25_6⟩ := cf7 BK217))
      go_ret
      exact ⟨fe, bs HB GE217⟩
     ·rw [if_neg c21] at H
      obtain ⟨c21b0, c21b1⟩ := bqf c21
      by_cases c26 : a0_0 = 9
      ·rw [if_pos c26] at H
       obtain ⟨c26b0, c26b1⟩ := bqt c26
       clear c26
       obtain rfl := Option.some.inj H
       go_enter Tryz.func30, Tryz.ntmps30
       go_wp2_with (first | ((with_reducible refine gate_dst (N := 3) rfl ?_); refine be 3 50 #[.int .i64 a0_0, .int .i64 a0_1, .int .i64 a0_2, .int .i64 a0_3, .int .i64 a0_4, .bool a0_5, .bool a0_6] ?_; intro gb217 hg w27 hbox hb; have BK217 := am hbox; have GW217 := bz HB hg; have GE217 := bz HB hg; replace HB := bn HB hb; clear hb hbox hg; obtain ⟨z28_0, z28_1, z28_2, z28_3, z28_4, z28_5, z28_6, f28_0, f28_1, f28_2, f28_3, f28_4, f28_5, f28_6⟩ := cf7 BK217) | ((with_reducible refine gate_callee (f := 39) rfl ?_); refine gl (some 8) rfl rfl Tryz.func39 rfl #[.agg #[.int .i64 a0_0, .int .i64 a0_1, .int .i64 a0_2, .int .i64 a0_3, .int .i64 a0_4, .bool a0_5, .bool a0_6]] rfl ?_; (with_reducible refine (inst_Good.calls a0_0 a0_1 a0_2 a0_3 a0_4 a0_5 a0_6 true _ A4.out).mono ?_); rintro e w29 ⟨rfl, hb⟩; refine ⟨_, rfl, ?_⟩; replace BK217 := bk BK217 hb; replace HB := bns HB GE217 hb; (try clear hb); (try clear hb2); (try clear hk); (try clear hi); obtain ⟨z30_0, z30_1, z30_2, z30_3, z30_4, z30_5, z30_6, f30_0, f30_1, f30_2, f30_3, f30_4, f30_5, f30_6⟩ := cf7 BK217))
       go_ret
       exact ⟨fe, bs HB GE217⟩
      ·rw [if_neg c26] at H
       obtain ⟨c26b0, c26b1⟩ := bqf c26
       by_cases c31 : a0_0 = 10
       ·rw [if_pos c31] at H
        obtain ⟨c31b0, c31b1⟩ := bqt c31
        clear c31
        obtain rfl := Option.some.inj H
        go_enter Tryz.func30, Tryz.ntmps30
        go_wp2_with (first | ((with_reducible refine gate_dst (N := 3) rfl ?_); refine be 3 50 #[.int .i64 a0_0, .int .i64 a0_1, .int .i64 a0_2, .int .i64 a0_3, .int .i64 a0_4, .bool a0_5, .bool a0_6] ?_; intro gb217 hg w32 hbox hb; have BK217 := am hbox; have GW217 := bz HB hg; have GE217 := bz HB hg; replace HB := bn HB hb; clear hb hbox hg; obtain ⟨z33_0, z33_1, z33_2, z33_3, z33_4, z33_5, z33_6, f33_0, f33_1, f33_2, f33_3, f33_4, f33_5, f33_6⟩ := cf7 BK217) | ((with_reducible refine gate_callee (f := 39) rfl ?_); refine gl (some 8) rfl rfl Tryz.func39 rfl #[.agg #[.int .i64 a0_0, .int .i64 a0_1, .int .i64 a0_2, .int .i64 a0_3, .int .i64 a0_4, .bool a0_5, .bool a0_6]] rfl ?_; (with_reducible refine (inst_Good.calls a0_0 a0_1 a0_2 a0_3 a0_4 a0_5 a0_6 true _ A4.out).mono ?_); rintro e w34 ⟨rfl, hb⟩; refine ⟨_, rfl, ?_⟩; replace BK217 := bk BK217 hb; replace HB := bns HB GE217 hb; (try clear hb); (try clear hb2); (try clear hk); (try clear hi); obtain ⟨z35_0, z35_1, z35_2, z35_3, z35_4, z35_5, z35_6, f35_0, f35_1, f35_2, f35_3, f35_4, f35_5, f35_6⟩ := cf7 BK217))
        go_ret
        exact ⟨fe, bs HB GE217⟩
       ·rw [if_neg c31] at H
        obtain ⟨c31b0, c31b1⟩ := bqf c31
        obtain rfl := Option.some.inj H
        go_enter Tryz.func30, Tryz.ntmps30
        go_wp2_with (first | ((with_reducible refine gate_dst (N := 3) rfl ?_); refine be 3 50 #[.int .i64 a0_0, .int .i64 a0_1, .int .i64 a0_2, .int .i64 a0_3, .int .i64 a0_4, .bool a0_5, .bool a0_6] ?_; intro gb217 hg w36 hbox hb; have BK217 := am hbox; have GW217 := bz HB hg; have GE217 := bz HB hg; replace HB := bn HB hb; clear hb hbox hg; obtain ⟨z37_0, z37_1, z37_2, z37_3, z37_4, z37_5, z37_6, f37_0, f37_1, f37_2, f37_3, f37_4, f37_5, f37_6⟩ := cf7 BK217) | ((with_reducible refine gate_callee (f := 39) rfl ?_); refine gl (some 8) rfl rfl Tryz.func39 rfl #[.agg #[.int .i64 a0_0, .int .i64 a0_1, .int .i64 a0_2, .int .i64 a0_3, .int .i64 a0_4, .bool a0_5, .bool a0_6]] rfl ?_; (with_reducible refine (inst_Good.calls a0_0 a0_1 a0_2 a0_3 a0_4 a0_5 a0_6 true _ A4.out).mono ?_); rintro e w38 ⟨rfl, hb⟩; refine ⟨_, rfl, ?_⟩; replace BK217 := bk BK217 hb; replace HB := bns HB GE217 hb; (try clear hb); (try clear hb2); (try clear hk); (try clear hi); obtain ⟨z39_0, z39_1, z39_2, z39_3, z39_4, z39_5, z39_6, f39_0, f39_1, f39_2, f39_3, f39_4, f39_5, f39_6⟩ := cf7 BK217))
        go_ret
        exact ⟨fe, bs HB GE217⟩
 ·replace c5 := Bool.eq_false_iff.mpr c5
  subst c5
  rw [if_neg ff] at H
  obtain rfl := Option.some.inj H
  go_enter Tryz.func30, Tryz.ntmps30
  go_wp2_with (first | ((with_reducible refine gate_dst (N := 3) rfl ?_); refine be 3 50 #[.int .i64 a0_0, .int .i64 a0_1, .int .i64 a0_2, .int .i64 a0_3, .int .i64 a0_4, .bool a0_5, .bool a0_6] ?_; intro gb217 hg w40 hbox hb; have BK217 := am hbox; have GW217 := bz HB hg; have GE217 := bz HB hg; replace HB := bn HB hb; clear hb hbox hg; obtain ⟨z41_0, z41_1, z41_2, z41_3, z41_4, z41_5, z41_6, f41_0, f41_1, f41_2, f41_3, f41_4, f41_5, f41_6⟩ := cf7 BK217) | ((with_reducible refine gate_callee (f := 39) rfl ?_); refine gl (some 8) rfl rfl Tryz.func39 rfl #[.agg #[.int .i64 a0_0, .int .i64 a0_1, .int .i64 a0_2, .int .i64 a0_3, .int .i64 a0_4, .bool a0_5, .bool a0_6]] rfl ?_; (with_reducible refine (inst_Good.calls a0_0 a0_1 a0_2 a0_3 a0_4 a0_5 a0_6 false _ A4.out).mono ?_); rintro e w42 ⟨rfl, hb⟩; refine ⟨_, rfl, ?_⟩; replace BK217 := bk BK217 hb; replace HB := bns HB GE217 hb; (try clear hb); (try clear hb2); (try clear hk); (try clear hi)))
  go_ret
  exact ⟨fe, bs HB GE217⟩
end Go.Proofs.YtcjfafhbohkhlaaGreat.PAll
