/- DERIVED. Printed contracts of functions. -/
import Derived.Test.YtcjfafhbohkhlaaGreatPAllx0
import Derived.Test.YtcjfafhbohkhlaaGreatPAllx2
import Derived.Test.YtcjfafhbohkhlaaGreatPAllx4
namespace Go.Proofs.YtcjfafhbohkhlaaGreat.PAll
open Go.RowKit Go.Proofs.YtcjfafhbohkhlaaGreatW.PrintWords Go.Proofs.YtcjfafhbohkhlaaGreatW.PrintLast Go.Proofs.YtcjfafhbohkhlaaGreatW.PrintMore Go.Proofs.YtcjfafhbohkhlaaGreat.M
attribute [local go_sem] max2_int min2_int max_two min_two max_three min_three max_four min_four
set_option linter.unusedVariables false
set_option linter.unusedSimpArgs false
def inst_Atomic0.f (a0 : Int) : Option (Bool) := if a0 ≥ 66 then (some (decide (a0 ≤ 87))) else (some false)
set_option maxHeartbeats 8000000 in
set_option maxRecDepth 100000 in
theorem inst_Atomic0.calls (a0 : Int) (r : Bool) (w : World) (h : inst_Atomic0.f a0 = some r) :
  Calls Tryz.prog 49 #[.int .i64 a0] w fun e w' => e = .returned (.bool r) ∧ Drawn0 w w' := by
 have H := h
 clear h
 unfold inst_Atomic0.f at H
 by_cases c2 : a0 ≥ 66
 ·rw [if_pos c2] at H
  have c2b0 : decide (66 ≤ a0) = true := decide_eq_true c2
  clear c2
  obtain rfl := Option.some.inj H
  go_enter Tryz.func49, Tryz.ntmps49
  go_wp2
  go_ret
  exact fd
 ·rw [if_neg c2] at H
  have c2b0 : decide (66 ≤ a0) = false := decide_eq_false c2
  clear c2
  obtain rfl := Option.some.inj H
  go_enter Tryz.func49, Tryz.ntmps49
  go_wp2
  go_ret
  exact fd
def atomicB (op : Int) : Bool := decide (66 ≤ op ∧ op ≤ 87)
def loadsB (op : Int) : Bool := decide (11 ≤ op ∧ op ≤ 17 ∨ 66 ≤ op ∧ op ≤ 87 ∧ op ≠ 67 ∧ op ≠ 78)
def storesB (op : Int) : Bool := decide (18 ≤ op ∧ op ≤ 21 ∨ 66 ≤ op ∧ op ≤ 87 ∧ op ≠ 66 ∧ op ≠ 77)
def sizeOf (op : Int) : Int := if op = 11 ∨ op = 15 ∨ op = 18 then 1 else if op = 12 ∨ op = 16 ∨ op = 19 then 2 else if op = 13 ∨ op = 17 ∨ op = 20 then 4 else if op = 14 ∨ op = 21 then 8 else if 66 ≤ op ∧ op < 77 then 4 else if 77 ≤ op ∧ op ≤ 87 then 8 else 0
def inst_Atomic.f (a0 : Int) : Option (Bool) := some (atomicB a0)
theorem inst_Atomic.spec (a0 : Int) (r : Bool) (h : inst_Atomic.f a0 = some r) : inst_Atomic0.f a0 = some r := by
 rw [← h]; unfold inst_Atomic0.f inst_Atomic.f atomicB
 by_cases h1 : 66 ≤ a0 <;> simp [h1]
theorem inst_Atomic.calls (a0 : Int) (r : Bool) (w : World) (h : inst_Atomic.f a0 = some r) :
  Calls Tryz.prog 49 #[.int .i64 a0] w fun e w' => e = .returned (.bool r) ∧ Drawn0 w w' := by
 have hk := inst_Atomic.spec a0 r h
 exact inst_Atomic0.calls a0 r w hk
def inst_near.f (a0 : Int) (a1 : Int) : Option (Bool) := some (nearOf a0 a1)
set_option maxHeartbeats 4000000 in
theorem inst_near.calls (a0 a1 : Int) (r : Bool) (w : World) (h : inst_near.f a0 a1 = some r) : Calls Tryz.prog 47 #[.int .i64 a0, .int .i64 a1] w fun e w' => e = .returned (.bool r) ∧ Below w.heap.size w w' := by
 obtain rfl := Option.some.inj h
 clear h
 by_cases h1 : a1 = 3 ∨ a1 = 19 ∨ a1 = 51 ∨ a1 = 47
 ·go_enter Tryz.func47, Tryz.ntmps47
  go_wp2
  all_goals go_ret
  all_goals refine ⟨?_, by go_grown⟩
  all_goals simp only [beq_iff_eq, beq_eq_false_iff_ne, ne_eq] at *
  all_goals (try subst_vars)
  all_goals refine congrArg (fun b => Ending.returned (Value.bool b)) (?_ : _ = _)
  all_goals rw [Bool.eq_iff_iff]
  all_goals simp [nearOf]
  all_goals omega
 ·have hfd : ∀ (W : World) (x0 x1 x2 x3 : Int), (Instr.field 87 (.agg #[.int .i64 x0, .int .i64 x1, .int .i64 x2, .int .i64 x3]) 1).run Tryz.prog W = .ok (.int .i64 x1) W := fun _ _ _ _ _ => by kernel_rfl
  have k1 : (a1 == 3) = false := by simp; omega
  have k2 : (a1 == 19) = false := by simp; omega
  have k3 : (a1 == 51) = false := by simp; omega
  have k4 : (a1 == 47) = false := by simp; omega
  go_enter Tryz.func47, Tryz.ntmps47
  go_wp2_with fail
  refine (inst_of.calls a0 _ _ _ _ _ rfl).mono ?_
  rintro e w1 ⟨rfl, hb⟩
  have hb := Lib.hid hb
  go_wp2_with fail
  go_returns
  refine ⟨?_, hb.out⟩
  simp only [nearOf, if_neg (show ¬ a1 = 3 by omega), if_neg (show ¬ a1 = 19 by omega), if_neg (show ¬ a1 = 51 by omega), if_neg (show ¬ a1 = 47 by omega)]
  rfl
def bits_Field0.f (a0 : Int) (a1 : Int) (a2 : Int) : Option (Int) := (bits_is.f a1 a2).bind fun t153 => (if t153 = true then (if 0 ≤ a1 then ((bits_mask.f a2).bind fun t154 => (some (Go.bits .and .u64 (shr .u64 a0 a1) t154))) else (none)) else (some 0))
set_option maxHeartbeats 8000000 in
set_option maxRecDepth 100000 in
theorem bits_Field0.calls (a0 : Int) (a1 : Int) (a2 : Int) (r : Int) (w : World) (h : bits_Field0.f a0 a1 a2 = some r) :
  Calls Tryz.prog 82 #[.int .u64 a0, .int .i64 a1, .int .i64 a2] w fun e w' => e = .returned (.int .u64 r) ∧ Drawn0 w w' := by
 have H := h
 clear h
 unfold bits_Field0.f at H
 obtain ⟨t153, A4, H⟩ := bam H
 try dsimp only at H
 by_cases c5 : t153 = true
 ·subst c5
  rw [if_pos rfl] at H
  by_cases c6 : 0 ≤ a1
  ·rw [if_pos c6] at H
   have c6b0 := eq_true c6
   have c6b1 : decide (0 ≤ a1) = true := decide_eq_true c6
   clear c6
   obtain ⟨ji7, hji7⟩ : ∃ j_ : Int, (shr .u64 a0 a1) = j_ := ⟨_, rfl⟩
   replace H : ((bits_mask.f a2).bind fun t154 => (some (Go.bits .and .u64 (ji7) t154))) = some r := by first | (rw [hji7] at H; exact H) | (simp only [hji7] at H ⊢; exact H)
   (try rw [hji7] at A4)
   have hji7_ : (a0 / 2 ^ min a1.toNat 64) = ji7 := hji7
   have hji7z : a1 ≤ 64 → (a0 / 2 ^ a1.toNat) = ji7 := shr_small hji7
   obtain ⟨t154, A8, H⟩ := bam H
   try dsimp only at H
   obtain rfl := Option.some.inj H
   go_enter Tryz.func82, Tryz.ntmps82
   go_wp2_with (first | (go_at_call 79; (with_reducible refine (bits_is.calls a1 a2 true _ A4.out).mono ?_); rintro e w' ⟨rfl, ⟨nd, rfl⟩⟩; (try first | exact ⟨rfl, _, World.drewN_drewN _ _ _⟩ | exact ⟨rfl, _, Eq.trans (World.drewN_drewN _ _ _) (congrArg (World.drewN _) (Nat.add_assoc _ _ _))⟩)) | (go_at_call 80; (with_reducible refine (bits_mask.calls a2 t154 _ A8.out).mono ?_); rintro e w' ⟨rfl, ⟨nd, rfl⟩⟩; (try first | exact ⟨rfl, _, World.drewN_drewN _ _ _⟩ | exact ⟨rfl, _, Eq.trans (World.drewN_drewN _ _ _) (congrArg (World.drewN _) (Nat.add_assoc _ _ _))⟩)))
   repeat (go_quiet (first | (go_at_call 79; (with_reducible refine (bits_is.calls a1 a2 true _ A4.out).mono ?_); rintro e w' ⟨rfl, ⟨nd, rfl⟩⟩; (try first | exact ⟨rfl, _, World.drewN_drewN _ _ _⟩ | exact ⟨rfl, _, Eq.trans (World.drewN_drewN _ _ _) (congrArg (World.drewN _) (Nat.add_assoc _ _ _))⟩)) | (go_at_call 80; (with_reducible refine (bits_mask.calls a2 t154 _ A8.out).mono ?_); rintro e w' ⟨rfl, ⟨nd, rfl⟩⟩; (try first | exact ⟨rfl, _, World.drewN_drewN _ _ _⟩ | exact ⟨rfl, _, Eq.trans (World.drewN_drewN _ _ _) (congrArg (World.drewN _) (Nat.add_assoc _ _ _))⟩))); try go_wp2_with (first | (go_at_call 79; (with_reducible refine (bits_is.calls a1 a2 true _ A4.out).mono ?_); rintro e w' ⟨rfl, ⟨nd, rfl⟩⟩; (try first | exact ⟨rfl, _, World.drewN_drewN _ _ _⟩ | exact ⟨rfl, _, Eq.trans (World.drewN_drewN _ _ _) (congrArg (World.drewN _) (Nat.add_assoc _ _ _))⟩)) | (go_at_call 80; (with_reducible refine (bits_mask.calls a2 t154 _ A8.out).mono ?_); rintro e w' ⟨rfl, ⟨nd, rfl⟩⟩; (try first | exact ⟨rfl, _, World.drewN_drewN _ _ _⟩ | exact ⟨rfl, _, Eq.trans (World.drewN_drewN _ _ _) (congrArg (World.drewN _) (Nat.add_assoc _ _ _))⟩))))
   go_ret
   exact ⟨by first | rfl | (simp; done) | (simp only [← hji7] <;> (first | rfl | simp)) | (simp [*]; done), dd⟩
  ·rw [if_neg c6] at H
   exact absurd H (by simp)
 ·replace c5 := Bool.eq_false_iff.mpr c5
  subst c5
  rw [if_neg ff] at H
  obtain rfl := Option.some.inj H
  go_enter Tryz.func82, Tryz.ntmps82
  go_wp2_with (first | (go_at_call 79; (with_reducible refine (bits_is.calls a1 a2 false _ A4.out).mono ?_); rintro e w' ⟨rfl, ⟨nd, rfl⟩⟩; (try first | exact ⟨rfl, _, World.drewN_drewN _ _ _⟩ | exact ⟨rfl, _, Eq.trans (World.drewN_drewN _ _ _) (congrArg (World.drewN _) (Nat.add_assoc _ _ _))⟩)))
  repeat (go_quiet (first | (go_at_call 79; (with_reducible refine (bits_is.calls a1 a2 false _ A4.out).mono ?_); rintro e w' ⟨rfl, ⟨nd, rfl⟩⟩; (try first | exact ⟨rfl, _, World.drewN_drewN _ _ _⟩ | exact ⟨rfl, _, Eq.trans (World.drewN_drewN _ _ _) (congrArg (World.drewN _) (Nat.add_assoc _ _ _))⟩))); try go_wp2_with (first | (go_at_call 79; (with_reducible refine (bits_is.calls a1 a2 false _ A4.out).mono ?_); rintro e w' ⟨rfl, ⟨nd, rfl⟩⟩; (try first | exact ⟨rfl, _, World.drewN_drewN _ _ _⟩ | exact ⟨rfl, _, Eq.trans (World.drewN_drewN _ _ _) (congrArg (World.drewN _) (Nat.add_assoc _ _ _))⟩))))
  go_ret
  exact fd
def bits_Field.f (a0 : Int) (a1 : Int) (a2 : Int) : Option (Int) := if U64 a0 then some (fieldOf a0 a1 a2) else none
theorem bits_Field.spec (a0 a1 a2 r : Int) (h : bits_Field.f a0 a1 a2 = some r) : bits_Field0.f a0 a1 a2 = some r := by
 unfold bits_Field.f at h
 by_cases hu : U64 a0
 ·rw [if_pos hu] at h
  obtain rfl := Option.some.inj h
  unfold bits_Field0.f bits_is.f
  by_cases h1 : a1 ≥ 0
  ·rw [if_pos h1]
   by_cases h2 : a1 < 64
   ·rw [if_pos h2]
    simp only [Option.bind_some]
    by_cases h3 : a2 ≥ 1
    ·rw [decide_eq_true h3, if_pos rfl, if_pos h1, bits_mask.f, if_pos h3]
     simp only [Option.bind_some]
     unfold fieldOf
     rw [if_neg (by omega)]
     have e : shr .u64 a0 a1 = a0 / 2 ^ a1.toNat := by
      unfold shr; rw [Nat.min_eq_left (show a1.toNat ≤ IntKind.u64.bits by show _ ≤ 64; omega)]
     have hr : U64 (a0 / 2 ^ a1.toNat) := ⟨Int.ediv_nonneg hu.1 (Int.le_of_lt (ipos _)), Int.le_trans (Int.ediv_le_self _ hu.1) hu.2⟩
     rw [e, and_mask _ hr _ (by omega)]
    ·rw [decide_eq_false h3, if_neg (by decide), fieldOf, if_pos (Or.inr (Or.inr (by omega)))]
   ·rw [if_neg h2]; simp only [Option.bind_some]
    rw [if_neg (by decide), fieldOf, if_pos (Or.inr (Or.inl (by omega)))]
  ·rw [if_neg h1]; simp only [Option.bind_some]
   rw [if_neg (by decide), fieldOf, if_pos (Or.inl (by omega))]
 ·rw [if_neg hu] at h; exact absurd h (by simp)
theorem bits_Field.eq {a0 : Int} (h : U64 a0) (a1 a2 : Int) : bits_Field.f a0 a1 a2 = some (fieldOf a0 a1 a2) := if_pos h
theorem bits_Field.calls (a0 : Int) (a1 : Int) (a2 : Int) (r : Int) (w : World) (h : bits_Field.f a0 a1 a2 = some r) :
  Calls Tryz.prog 82 #[.int .u64 a0, .int .i64 a1, .int .i64 a2] w fun e w' => e = .returned (.int .u64 r) ∧ Drawn0 w w' := by
 have hk := bits_Field.spec a0 a1 a2 r h
 exact bits_Field0.calls a0 a1 a2 r w hk
def inst_width0.j0 : Nat → Int → Bool → Option (Int)
 | 0, _, _ => none
 | k + 1, x3, x8 => if x8 = true then (some 12) else (if x3 = 4 then (some 13) else (some 0))
def inst_width0.f (k : Nat) (a0 : Int) : Option (Int) := if a0 = 1 then (some 32) else (if a0 = 2 then (some 21) else (if a0 = 3 then (inst_width0.j0 k a0 (a0 == 3)) else (inst_width0.j0 k a0 (a0 == 5))))
theorem inst_width0.mono_l : ∀ k, (∀ y0 y1, LeO (inst_width0.j0 k y0 y1) (inst_width0.j0 (k + 1) y0 y1))
 | 0 => fun _ _ r h => by simp [inst_width0.j0] at h
 | k + 1 => by
  have ih0 := inst_width0.mono_l k
  ·intro y0 y1
   unfold inst_width0.j0
   exact leo
theorem inst_width0.mono : ∀ a0 k, LeO (inst_width0.f k a0) (inst_width0.f (k + 1) a0) := by
 intro a0 k
 have ih0 := inst_width0.mono_l k
 unfold inst_width0.f
 exact leo
set_option maxHeartbeats 8000000 in
set_option maxRecDepth 100000 in
theorem inst_width0.calls (k : Nat) (a0 : Int) (r : Int) (w : World) (h : inst_width0.f k a0 = some r) :
  Calls Tryz.prog 83 #[.int .i64 a0] w fun e w' => e = .returned (.int .i64 r) ∧ Drawn0 w w' := by
 have H := h
 clear h
 unfold inst_width0.f at H
 by_cases c2 : a0 = 1
 ·rw [if_pos c2] at H
  obtain ⟨c2b0, c2b1⟩ := bqt c2
  clear c2
  obtain rfl := Option.some.inj H
  go_enter Tryz.func83, Tryz.ntmps83
  go_wp2
  go_ret
  exact fd
 ·rw [if_neg c2] at H
  obtain ⟨c2b0, c2b1⟩ := bqf c2
  by_cases c3 : a0 = 2
  ·rw [if_pos c3] at H
   obtain ⟨c3b0, c3b1⟩ := bqt c3
   clear c3
   obtain rfl := Option.some.inj H
   go_enter Tryz.func83, Tryz.ntmps83
   go_wp2
   go_ret
   exact fd
  ·rw [if_neg c3] at H
   obtain ⟨c3b0, c3b1⟩ := bqf c3
   have HC4 := am H
   clear H
   go_enter Tryz.func83, Tryz.ntmps83
   go_upto_if 8 with (fail)
   go_cut [8] (fun v8 wc => ∃ (kq : Nat) (x8_3 : Bool), v8 = .bool x8_3 ∧ Aside0 (inst_width0.j0 kq a0 x8_3 = some r) ∧ Aside0 (kq ≤ k) ∧ Drawn0 w wc)
   case first =>
    have H := HC4.out
    clear HC4
    by_cases c5 : a0 = 3
    ·rw [if_pos c5] at H
     obtain ⟨c5b0, c5b1⟩ := bqt c5
     clear c5
     (first | rw [c5b0] | (simp only [i64_w, i32_w]; rw [c5b0]) | skip)
     have H' := am H
     clear H
     go_wp2
     go_meet
     case rel => exact ⟨_, ((a0 == 3)), fr, H', ⟨om⟩, dd⟩
    ·rw [if_neg c5] at H
     obtain ⟨c5b0, c5b1⟩ := bqf c5
     (first | rw [c5b0] | (simp only [i64_w, i32_w]; rw [c5b0]) | skip)
     have H' := am H
     clear H
     go_wp2
     go_meet
     case rel => exact ⟨_, ((a0 == 5)), fr, H', ⟨om⟩, dd⟩
   case rest =>
    clear HC4
    try clear c2
    try clear c2b0
    try clear c2b1
    try clear p2
    try clear c3
    try clear c3b0
    try clear c3b1
    try clear c5
    try clear c5b0
    try clear c5b1
    obtain ⟨kq, x8_3, rfl, HA, HJ3, ⟨mc3, rfl⟩⟩ := hcut
    cases kq with
    | zero => exact absurd HA.out (by simp [inst_width0.j0])
    | succ kj3 =>
     have H := HA.out
     clear HA
     simp only [inst_width0.j0] at H
     by_cases c6 : x8_3 = true
     ·subst c6
      rw [if_pos rfl] at H
      obtain rfl := Option.some.inj H
      go_wp2
      go_ret
      exact fd
     ·replace c6 := Bool.eq_false_iff.mpr c6
      subst c6
      rw [if_neg ff] at H
      by_cases c7 : a0 = 4
      ·rw [if_pos c7] at H
       obtain ⟨c7b0, c7b1⟩ := bqt c7
       clear c7
       obtain rfl := Option.some.inj H
       go_wp2
       go_ret
       exact fd
      ·rw [if_neg c7] at H
       obtain ⟨c7b0, c7b1⟩ := bqf c7
       obtain rfl := Option.some.inj H
       go_wp2
       go_ret
       exact fd
def inst_width.f (a0 : Int) : Option (Int) := some (widthOf a0)
theorem inst_width.spec (a0 r : Int) (h : inst_width.f a0 = some r) : ∃ k, inst_width0.f k a0 = some r := by
 simp only [inst_width.f, Option.some.injEq] at h
 subst h
 refine ⟨3, ?_⟩
 unfold widthOf
 by_cases h1 : a0 = 1
 ·subst h1; rfl
 by_cases h2 : a0 = 2
 ·subst h2; rfl
 by_cases h3 : a0 = 3
 ·subst h3; rfl
 by_cases h5 : a0 = 5
 ·subst h5; rfl
 by_cases h4 : a0 = 4
 ·subst h4; rfl
 have e5 : (a0 == 5) = false := by simpa using h5
 simp [inst_width0.f, inst_width0.j0, h1, h2, h3, h4, h5, e5]
theorem inst_width.calls (a0 : Int) (r : Int) (w : World) (h : inst_width.f a0 = some r) :
  Calls Tryz.prog 83 #[.int .i64 a0] w fun e w' => e = .returned (.int .i64 r) ∧ Drawn0 w w' := by
 obtain ⟨k, hk⟩ := inst_width.spec a0 r h
 exact inst_width0.calls k a0 r w hk
set_option maxHeartbeats 4000000 in
theorem inst_places.c (f : Int) (w : World) : Calls Tryz.prog 42 #[.int .i64 f] w fun e w' => Below w.heap.size w w' ∧ ((placesOf f = [] ∧ e = .returned (.slice none 0 0)) ∨ (∃ b T, w.heap.size ≤ b ∧ e = .returned (.slice (some ⟨b, 0, none⟩) ((placesOf f).length / 3) ((placesOf f).length / 3)) ∧ Blk w' b ((placesOf f).map (Value.int .i64)).toArray T)) := by
 go_enter Tryz.func42, Tryz.ntmps42
 go_wp2
 all_goals go_ret
 all_goals simp only [beq_iff_eq, beq_eq_false_iff_ne, ne_eq] at *
 all_goals (first
  | (subst_vars; exact ⟨by go_grown, Or.inr ⟨w.heap.size, _, Nat.le_refl _, rfl, Blk.new _ _ _⟩⟩)
  | (refine ⟨by go_grown, Or.inl ⟨?_, rfl⟩⟩; simp [placesOf, *])
  | trace_state)
set_option maxHeartbeats 4000000 in
theorem inst_as1.c (w0 low n : Int) (h : U64 w0) (w : World) (b T : Nat) (B : Blk w b #[.int .u64 w0] T) : Calls Tryz.prog 81 #[.int .i64 low, .int .i64 n, .pointer (some ⟨b, 0, none⟩)] w fun e w' => e = .returned (.int .i64 (wrap64 (fieldOf w0 low n))) ∧ Drawn0 w w' := by
 have hF := Lib.hid (bits_Field.calls w0 low n _ · (by unfold bits_Field.f; rw [if_pos h]))
 have c1 := B.cell 0
 go_enter Tryz.func81, Tryz.ntmps81
 go_wp2_with fail
 refine (hF.out _).mono ?_
 rintro e w1 ⟨rfl, hb⟩
 have hb := Lib.hid hb
 go_wp2_with fail
 go_returns
 exact ⟨rfl, hb.out⟩
def PlIn (w' : World) (B : Nat) (A : Option Addr) (n : Nat) (l : List Int) : Prop := n = 0 ∨ ∃ b T, B ≤ b ∧ A = some ⟨b, 0, none⟩ ∧ Blk w' b (l.map (Value.int .i64)).toArray T
structure AsRel (w : World) (G : Nat) (f c x3 x7 a2 op r1 r2 r3 : Int) (p q : Bool) (A : Option Addr) (n : Nat) (kq : Nat) (v : Value) (w' : World) (j : Nat) (acc : Int) : Prop where
 hj : j + kq = n
 hv : v = .int .i64 j
 h4 : Blk w' G #[.int .i64 op, .int .i64 r1, .int .i64 r2, .int .i64 r3, .int .i64 acc, .bool p, .bool q] 50
 h1 : Blk w' w.heap.size #[.int .i64 f, .int .i64 c, .int .i64 x3, .int .i64 x7] 87
 h2 : Blk w' (w.heap.size + 1) #[.int .u64 a2] 22
 h3 : Blk w' (w.heap.size + 1 + 1) #[.int .i64 0, .int .i64 0, .int .i64 0, .int .i64 0, .int .i64 0, .bool false, .bool false] 50
 hp : PlIn w' (G + 1) A n (placesOf f)
 hb : Below w.heap.size w w'
 hg : w.heap.size + 1 + 1 < G
 hs : orImm a2 ((placesOf f).drop (3 * j)) acc = orImm a2 (placesOf f) 0
theorem pl_cell {w : World} {b T : Nat} {l : List Int} (B : Blk w b (l.map (Value.int .i64)).toArray T) (i : Nat) (h : i < l.length) : w.cell? ⟨b, i, none⟩ = some (.int .i64 (l.getD i 0)) := by
 rw [B.cell i]
 simp [List.getD_eq_getElem?_getD, List.getElem?_eq_getElem h]
theorem agg7 {a b c d e a' b' c' d' e' : Int} {p q p' q' : Bool} (h1 : a = a') (h2 : b = b') (h3 : c = c') (h4 : d = d') (h5 : e = e') (h6 : p = p') (h7 : q = q') : Ending.returned (.agg #[.int .i64 a, .int .i64 b, .int .i64 c, .int .i64 d, .int .i64 e, .bool p, .bool q]) = .returned (.agg #[.int .i64 a', .int .i64 b', .int .i64 c', .int .i64 d', .int .i64 e', .bool p', .bool q']) := by subst_vars; rfl
def inst_as.f (a0 f a1_1 a1_2 a1_3 a2 : Int) : Option (Int × Int × Int × Int × Int × Bool × Bool) :=
 if U64 a2 then some (a0, keep (hasRd f) (a2 / 128 % 32), keep (hasRs1 f) (a2 / 32768 % 32), keep (hasRs2 f) (a2 / 1048576 % 32), decImm f a2, hasAq f && a2 / 67108864 % 2 == 1, hasAq f && a2 / 33554432 % 2 == 1) else none
set_option maxHeartbeats 16000000 in
set_option maxRecDepth 100000 in
theorem inst_as.c (a0 f c x3 x7 a2 : Int) (w : World) (h : U64 a2) : Calls Tryz.prog 48 #[.int .i64 a0, .agg #[.int .i64 f, .int .i64 c, .int .i64 x3, .int .i64 x7], .int .u64 a2] w fun e w' => e = .returned (.agg #[.int .i64 a0, .int .i64 (keep (fieldsOf f % 2 == 1) (wrap64 (fieldOf a2 7 5))), .int .i64 (keep (fieldsOf f / 2 % 2 == 1) (wrap64 (fieldOf a2 15 5))), .int .i64 (keep (fieldsOf f / 4 % 2 == 1) (wrap64 (fieldOf a2 20 5))), .int .i64 (decImm f a2), .bool (fieldsOf f / 16 % 2 == 1 && wrap64 (fieldOf a2 26 1) == 1), .bool (fieldsOf f / 16 % 2 == 1 && wrap64 (fieldOf a2 25 1) == 1)]) ∧ Below w.heap.size w w' := by
 have hm : 0 ≤ fieldsOf f ∧ fieldsOf f < 32 := ⟨(fields_has f).2.2.2.2.1, (fields_has f).2.2.2.2.2⟩
 have hA := Lib.hid (fun (low n : Int) => inst_as1.c a2 low n h)
 have hf' := Lib.hid (fun (W : World) => inst_fields.calls f _ W rfl)
 have hk' := Lib.hid (fun a b c d i p q (W : World) => inst_kept.calls a b c d i p q (fieldsOf f) _ _ _ _ _ _ _ W (by unfold inst_kept.f; rw [if_pos hm]))
 have hW' := Lib.hid (fun (W : World) => inst_width.calls f _ W rfl)
 have hS' := Lib.hid (fun (x : Int) (n : Int) (hx : U64 x) (W : World) => bits_Sign.calls x n _ W (by unfold bits_Sign.f; rw [if_pos hx]))
 have hU := Lib.hid h
 have hM := Lib.hid hm
 clear h hm
 go_enter Tryz.func48, Tryz.ntmps48
 go_wp2_with fail
 generalize hX : World.alloc _ _ = X
 have B1 := new3a hX
 have B2 := new3b hX
 have B3 := new3c hX
 have hb := new3d hX
 clear hX
 refine (hf'.out X).mono ?_
 rintro e w1 ⟨rfl, hb1⟩
 replace hb1 := hb1.below
 replace B1 := B1.below hb1
 replace B2 := B2.below hb1
 replace B3 := B3.below hb1
 replace hb := Lib.hid (hb.trans (hb1.mono hb.size))
 clear hb1
 have c1 := B1.cell
 go_wp2_with fail
 refine (hA.out 7 5 w1 _ _ B2).mono ?_
 rintro e w2 ⟨rfl, hb1⟩
 replace hb1 := hb1.below
 replace B1 := B1.below hb1
 replace B2 := B2.below hb1
 replace B3 := B3.below hb1
 replace hb := Lib.hid (hb.out.trans (hb1.mono hb.out.size))
 clear hb1 c1
 go_wp2_with fail
 refine (hA.out 15 5 w2 _ _ B2).mono ?_
 rintro e w3 ⟨rfl, hb1⟩
 replace hb1 := hb1.below
 replace B1 := B1.below hb1
 replace B2 := B2.below hb1
 replace B3 := B3.below hb1
 replace hb := Lib.hid (hb.out.trans (hb1.mono hb.out.size))
 clear hb1
 go_wp2_with fail
 refine (hA.out 20 5 w3 _ _ B2).mono ?_
 rintro e w4 ⟨rfl, hb1⟩
 replace hb1 := hb1.below
 replace B1 := B1.below hb1
 replace B2 := B2.below hb1
 replace B3 := B3.below hb1
 replace hb := Lib.hid (hb.out.trans (hb1.mono hb.out.size))
 clear hb1
 go_wp2_with fail
 refine (hA.out 26 1 w4 _ _ B2).mono ?_
 rintro e w5 ⟨rfl, hb1⟩
 replace hb1 := hb1.below
 replace B1 := B1.below hb1
 replace B2 := B2.below hb1
 replace B3 := B3.below hb1
 replace hb := Lib.hid (hb.out.trans (hb1.mono hb.out.size))
 clear hb1
 go_wp2_with fail
 refine (hA.out 25 1 w5 _ _ B2).mono ?_
 rintro e w6 ⟨rfl, hb1⟩
 replace hb1 := hb1.below
 replace B1 := B1.below hb1
 replace B2 := B2.below hb1
 replace B3 := B3.below hb1
 replace hb := Lib.hid (hb.out.trans (hb1.mono hb.out.size))
 clear hb1
 go_wp2_with fail
 refine (hk'.out _ _ _ _ _ _ _ w6).mono ?_
 rintro e w7 ⟨rfl, hb1⟩
 replace B1 := B1.below hb1
 replace B2 := B2.below hb1
 replace hb := Lib.hid (hb.out.trans (hb1.mono hb.out.size))
 replace B3 := B3.below hb1
 clear hb1
 have c1 := B1.cell
 have l1 := B1.lt
 have l2 := B3.lt
 have hb1x := Lib.hid l2
 go_wp2_with fail
 generalize hY : World.alloc _ _ = Y
 have B4 := Blk.new_eq hY
 replace B1 := B1.alloc_eq hY
 replace B2 := B2.alloc_eq hY
 replace B3 := B3.alloc_eq hY
 have l7 : w.heap.size ≤ w7.heap.size := hb.out.size
 have e7 : Y.heap.size = w7.heap.size + 1 := by rw [← hY, World.size_alloc]
 replace hb := Lib.hid (below_alloc_eq hb.out hb.out.size hY)
 clear hY c1
 refine (inst_places.c f Y).mono ?_
 rintro e w8 ⟨hb1, hp⟩
 replace B1 := B1.below hb1
 replace B2 := B2.below hb1
 replace B3 := B3.below hb1
 replace B4 := B4.below hb1
 have l8 := hb1.size
 replace hb := Lib.hid (hb.out.trans (hb1.mono hb.out.size))
 clear hb1
 have hpl : ∃ (A : Option Addr) (n : Nat), e = .returned (.slice A n n) ∧ (placesOf f).length = 3 * n ∧ (n = 0 ∨ ∃ b T, w7.heap.size + 1 ≤ b ∧ A = some ⟨b, 0, none⟩ ∧ Blk w8 b ((placesOf f).map (Value.int .i64)).toArray T) := by
  rcases hp with ⟨h0, rfl⟩ | ⟨b, T, h0, rfl, B⟩
  ·exact ⟨none, 0, rfl, by rw [h0]; rfl, Or.inl rfl⟩
  ·refine ⟨_, _, rfl, ?_, Or.inr ⟨b, T, by omega, rfl, B⟩⟩
   unfold placesOf; repeat' split
   all_goals rfl
 clear hp
 obtain ⟨A, n, rfl, hn, hB⟩ := hpl
 have hB := Lib.hid hB
 have c1 := B1.cell
 go_wp2_with fail
 have hb := hb.out
 have hS := Lib.hid (AsRel.mk (w := w) (v := .int .i64 ((0 : Nat) : Int)) (j := 0) (Nat.zero_add n) rfl B4 B1 B2 B3 (hB.out) hb (by have := hb1x.out; omega) rfl)
 clear c1 B1 B2 B3 B4 hb hB
 go_loopg [37] n (fun kq v37 w' => ∃ j acc, AsRel w w7.heap.size f c x3 x7 a2 _ _ _ _ _ _ A n kq v37 w' j acc)
 case atStart => exact ⟨0, 0, hS.out⟩
 case round =>
  obtain ⟨j, acc, R⟩ := hrel
  obtain rfl := R.hv
  have e : j + gk = n := R.hj
  by_cases hlt : j < n
  ·obtain h0 | ⟨b, T, hb1, rfl, B⟩ := R.hp
   ·omega
   have q0 : wr.cell? ⟨b, j * 3, none⟩ = some (.int .i64 ((placesOf f).getD (3 * j) 0)) := by rw [Nat.mul_comm j 3]; exact pl_cell B _ (by omega)
   have q1 : wr.cell? ⟨b, j * 3 + 1, none⟩ = some (.int .i64 ((placesOf f).getD (3 * j + 1) 0)) := by rw [Nat.mul_comm j 3]; exact pl_cell B _ (by omega)
   have q2 : wr.cell? ⟨b, j * 3 + 2, none⟩ = some (.int .i64 ((placesOf f).getD (3 * j + 2) 0)) := by rw [Nat.mul_comm j 3]; exact pl_cell B _ (by omega)
   have k0 : 0 ≤ (placesOf f).getD (3 * j) 0 := (getD_mem_all (places_small f).1 _ (by omega)).1
   have hd3 := drop3 (placesOf f) j (by omega)
   have hs := R.hs
   rw [hd3] at hs
   generalize (placesOf f).getD (3 * j) 0 = lo at *
   generalize (placesOf f).getD (3 * j + 1) 0 = nn at *
   generalize (placesOf f).getD (3 * j + 2) 0 = at_ at *
   have l1 := B.lt
   have l2 := R.h4.lt
   have hlt' : (j : Int) < (n : Int) := by omega
   have hn' : n < 100 := by have := (places_small f).2; omega
   have HS := Lib.hid hs
   clear hs hd3
   have R4 := Lib.hid R.h4
   have R2 := Lib.hid R.h2
   have RR := Lib.hid R
   have BB := Lib.hid B
   have ee := Lib.hid e
   have gg : w7.heap.size < b := hb1
   clear R B e
   go_wp2_with fail
   generalize hZ : World.alloc _ _ = Z
   have C1 := R4.out.alloc_eq hZ
   have C2 := R2.out.alloc_eq hZ
   have C3 := Blk.new_eq hZ
   have c1 := C1.cell
   have c3 := C3.cell
   have f1 := C1.frozen
   have hZ := Lib.hid hZ
   have C1 := Lib.hid C1
   have C3 := Lib.hid C3
   clear q0 q1 q2
   refine wp_region_draws_tail 13 (by kernel_rfl) (by kernel_rfl) ?_
   simp only [List.take_succ_cons, List.take_zero, List.drop_succ_cons, List.drop_zero]
   repeat (any_goals (first | go_big_quiet_step (((go_at_call 81; refine (hA.out _ _ _ _ _ C2.drewN).mono ?_; rintro e w' ⟨rfl, ⟨nd, rfl⟩⟩; exact ⟨rfl, _, World.drewN_drewN _ _ _⟩))) | quiet_step (((go_at_call 81; refine (hA.out _ _ _ _ _ C2.drewN).mono ?_; rintro e w' ⟨rfl, ⟨nd, rfl⟩⟩; exact ⟨rfl, _, World.drewN_drewN _ _ _⟩)))))
   refine wpQuiet_nil ?_
   intro _ hw'
   obtain ⟨nq, hw''⟩ := hw'
   subst hw''
   go_wp2
   go_roundg (gk - 1)
   case measure => have := ee.out; omega
   case rel =>
    have D := RR.out
    have hZ := hZ.out
    have lz : w.heap.size ≤ wr.heap.size := D.hb.size
    refine ⟨j + 1, _, AsRel.mk (by have := ee.out; omega) (by go_num) (C1.out.drewN.set 4 _) ((D.h1.alloc_eq hZ).drewN.far (by have := D.hg; simp; omega) _) ((D.h2.alloc_eq hZ).drewN.far (by have := D.hg; simp; omega) _) ((D.h3.alloc_eq hZ).drewN.far (by have := D.hg; simp; omega) _) (Or.inr ⟨b, T, hb1, rfl, ((BB.out.alloc_eq hZ).drewN.far (by simp; omega) _)⟩) ?_ D.hg HS.out⟩
    exact (below_drewN (below_alloc_eq D.hb lz hZ) _).setCell (by have := D.hg; simp; omega) _
  ·have hn0 : j = n := by have := R.hj; omega
   have hac : acc = rawImm f a2 := by
    have h := R.hs
    rw [hn0, ← hn, List.drop_length] at h
    rw [← orImm_raw f a2, ← h]; rfl
   subst hac
   have R4 := R.h4
   have R1 := R.h1
   have rr := rawImm_range f a2
   have RR := Lib.hid R
   have c1 := R4.cell
   have f1 := R4.frozen
   have c2 := R1.cell
   have hlt' : ¬ (j : Int) < (n : Int) := by omega
   have R3 := R.h3
   have c3 := R3.cell
   have f3 := R3.frozen
   have l3 := R3.lt
   have l4 := R4.lt
   have RR4 := Lib.hid R4
   have RR1 := Lib.hid R1
   have RR3 := Lib.hid R3
   have hG := R.hg
   clear R4 R1 R3 R e hn0
   go_wp2_with fail
   refine (hW'.out wr).mono ?_
   rintro e w9 ⟨rfl, ⟨nd, rfl⟩⟩
   by_cases hw : 0 < widthOf f
   ·go_wp2_with fail
    refine (hS'.out _ _ (by unfold U64; omega) _).mono ?_
    rintro e w9 ⟨rfl, ⟨ne, rfl⟩⟩
    have hd : Hid (wrap64 (signOf (rawImm f a2) (widthOf f)) = decImm f a2) := by unfold decImm; rw [if_pos hw]; rfl
    go_wp2_with fail
    (try simp only [Exit.inBlock, Exit.then])
    generalize hV : World.setCell _ _ _ = V
    have D : Blk V (w.heap.size + 1 + 1) #[.int .i64 a0, .int .i64 (keep (fieldsOf f % 2 == 1) (wrap64 (fieldOf a2 7 5))), .int .i64 (keep (fieldsOf f / 2 % 2 == 1) (wrap64 (fieldOf a2 15 5))), .int .i64 (keep (fieldsOf f / 4 % 2 == 1) (wrap64 (fieldOf a2 20 5))), .int .i64 (wrap64 (signOf (rawImm f a2) (widthOf f))), .bool (fieldsOf f / 16 % 2 == 1 && wrap64 (fieldOf a2 26 1) == 1), .bool (fieldsOf f / 16 % 2 == 1 && wrap64 (fieldOf a2 25 1) == 1)] 50 := by
     rw [← hV]
     have h := ((((((((RR3.out.drewN (n := nd + ne)).far (p := ⟨w7.heap.size, 4, none⟩) (by simp; omega) (.int .i64 (wrap64 (signOf (rawImm f a2) (widthOf f))))).set 0 (.int .i64 a0)).set 1 (.int .i64 (keep (fieldsOf f % 2 == 1) (wrap64 (fieldOf a2 7 5))))).set 2 (.int .i64 (keep (fieldsOf f / 2 % 2 == 1) (wrap64 (fieldOf a2 15 5))))).set 3 (.int .i64 (keep (fieldsOf f / 4 % 2 == 1) (wrap64 (fieldOf a2 20 5))))).set 4 (.int .i64 (wrap64 (signOf (rawImm f a2) (widthOf f))))).set 5 (.bool (fieldsOf f / 16 % 2 == 1 && wrap64 (fieldOf a2 26 1) == 1))).set 6 (.bool (fieldsOf f / 16 % 2 == 1 && wrap64 (fieldOf a2 25 1) == 1))
     simpa using h
    have hbV : Below w.heap.size w V := by
     rw [← hV]
     have hb := RR.out.hb
     iterate 8 (refine Below.setCell ?_ (by simp; omega) _)
     exact below_drewN hb _
    have cV := D.cell
    refine bodyPost_ret (v := .agg #[.int .i64 a0, .int .i64 (keep (fieldsOf f % 2 == 1) (wrap64 (fieldOf a2 7 5))), .int .i64 (keep (fieldsOf f / 2 % 2 == 1) (wrap64 (fieldOf a2 15 5))), .int .i64 (keep (fieldsOf f / 4 % 2 == 1) (wrap64 (fieldOf a2 20 5))), .int .i64 (wrap64 (signOf (rawImm f a2) (widthOf f))), .bool (fieldsOf f / 16 % 2 == 1 && wrap64 (fieldOf a2 26 1) == 1), .bool (fieldsOf f / 16 % 2 == 1 && wrap64 (fieldOf a2 25 1) == 1)]) (by simp [results, Tryz.results48, go_sem, cV]) rfl ?_
    rw [← hd.out]
    exact ⟨rfl, hbV⟩
   ·have hd : Hid (rawImm f a2 = decImm f a2) := by unfold decImm; rw [if_neg hw]; rfl
    go_wp2_with fail
    (try simp only [Exit.inBlock, Exit.then])
    generalize hV : World.setCell _ _ _ = V
    have D : Blk V (w.heap.size + 1 + 1) #[.int .i64 a0, .int .i64 (keep (fieldsOf f % 2 == 1) (wrap64 (fieldOf a2 7 5))), .int .i64 (keep (fieldsOf f / 2 % 2 == 1) (wrap64 (fieldOf a2 15 5))), .int .i64 (keep (fieldsOf f / 4 % 2 == 1) (wrap64 (fieldOf a2 20 5))), .int .i64 (rawImm f a2), .bool (fieldsOf f / 16 % 2 == 1 && wrap64 (fieldOf a2 26 1) == 1), .bool (fieldsOf f / 16 % 2 == 1 && wrap64 (fieldOf a2 25 1) == 1)] 50 := by
     rw [← hV]
     have h := (((((((RR3.out.drewN (n := nd)).set 0 (.int .i64 a0)).set 1 (.int .i64 (keep (fieldsOf f % 2 == 1) (wrap64 (fieldOf a2 7 5))))).set 2 (.int .i64 (keep (fieldsOf f / 2 % 2 == 1) (wrap64 (fieldOf a2 15 5))))).set 3 (.int .i64 (keep (fieldsOf f / 4 % 2 == 1) (wrap64 (fieldOf a2 20 5))))).set 4 (.int .i64 (rawImm f a2))).set 5 (.bool (fieldsOf f / 16 % 2 == 1 && wrap64 (fieldOf a2 26 1) == 1))).set 6 (.bool (fieldsOf f / 16 % 2 == 1 && wrap64 (fieldOf a2 25 1) == 1))
     simpa using h
    have hbV : Below w.heap.size w V := by
     rw [← hV]
     have hb := RR.out.hb
     iterate 7 (refine Below.setCell ?_ (by simp; omega) _)
     exact below_drewN hb _
    have cV := D.cell
    refine bodyPost_ret (v := .agg #[.int .i64 a0, .int .i64 (keep (fieldsOf f % 2 == 1) (wrap64 (fieldOf a2 7 5))), .int .i64 (keep (fieldsOf f / 2 % 2 == 1) (wrap64 (fieldOf a2 15 5))), .int .i64 (keep (fieldsOf f / 4 % 2 == 1) (wrap64 (fieldOf a2 20 5))), .int .i64 (rawImm f a2), .bool (fieldsOf f / 16 % 2 == 1 && wrap64 (fieldOf a2 26 1) == 1), .bool (fieldsOf f / 16 % 2 == 1 && wrap64 (fieldOf a2 25 1) == 1)]) (by simp [results, Tryz.results48, go_sem, cV]) rfl ?_
    rw [← hd.out]
    exact ⟨rfl, hbV⟩
theorem inst_as.calls (a0 f a1_1 a1_2 a1_3 a2 : Int) (r1 r2 r3 r4 r5 : Int) (r6 r7 : Bool) (w : World) (h : inst_as.f a0 f a1_1 a1_2 a1_3 a2 = some (r1, r2, r3, r4, r5, r6, r7)) : Calls Tryz.prog 48 #[.int .i64 a0, .agg #[.int .i64 f, .int .i64 a1_1, .int .i64 a1_2, .int .i64 a1_3], .int .u64 a2] w fun e w' => e = .returned (.agg #[.int .i64 r1, .int .i64 r2, .int .i64 r3, .int .i64 r4, .int .i64 r5, .bool r6, .bool r7]) ∧ Below w.heap.size w w' := by
 unfold inst_as.f at h
 split at h
 ·rename_i hu
  simp only [Option.some.injEq, Prod.mk.injEq] at h
  obtain ⟨rfl, rfl, rfl, rfl, rfl, rfl, rfl⟩ := h
  have q := fields_has f
  have g : ∀ (a n : Nat), a ≤ 63 → 1 ≤ n → n ≤ 5 → wrap64 (fieldOf a2 a n) = a2 / 2 ^ a % 2 ^ n := by
   intro a n ha h1 h2
   rw [field_lit a2 a n ha h1 (by omega)]
   have p1 := ipos n
   have p3 := ipow_le n 5 h2
   have b0 : 0 ≤ a2 / 2 ^ a % 2 ^ n := Int.emod_nonneg _ (Int.ne_of_gt p1)
   have b1 : a2 / 2 ^ a % 2 ^ n < 2 ^ n := Int.emod_lt_of_pos _ p1
   exact I64.wrap_eq ⟨by omega, by omega⟩
  refine (inst_as.c a0 f a1_1 a1_2 a1_3 a2 w hu).mono ?_
  rintro e w' ⟨rfl, hb⟩
  refine ⟨agg7 rfl ?_ ?_ ?_ rfl ?_ ?_, hb⟩
  ·rw [q.1]; congr 1; exact g 7 5 (by omega) (by omega) (by omega)
  ·rw [q.2.1]; congr 1; exact g 15 5 (by omega) (by omega) (by omega)
  ·rw [q.2.2.1]; congr 1; exact g 20 5 (by omega) (by omega) (by omega)
  ·rw [q.2.2.2.1]; congr 2; exact g 26 1 (by omega) (by omega) (by omega)
  ·rw [q.2.2.2.1]; congr 2; exact g 25 1 (by omega) (by omega) (by omega)
 ·simp at h
end Go.Proofs.YtcjfafhbohkhlaaGreat.PAll
