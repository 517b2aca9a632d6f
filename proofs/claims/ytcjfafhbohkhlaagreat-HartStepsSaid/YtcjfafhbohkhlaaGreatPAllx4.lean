/- DERIVED. Printed contracts of functions. -/
import Derived.Test.YtcjfafhbohkhlaaGreatPAllx0
namespace Go.Proofs.YtcjfafhbohkhlaaGreat.PAll
open Go.RowKit Go.Proofs.YtcjfafhbohkhlaaGreatW.PrintWords Go.Proofs.YtcjfafhbohkhlaaGreatW.PrintLast Go.Proofs.YtcjfafhbohkhlaaGreatW.PrintMore Go.Proofs.YtcjfafhbohkhlaaGreat.M
attribute [local go_sem] max2_int min2_int max_two min_two max_three min_three max_four min_four
set_option linter.unusedVariables false
set_option linter.unusedSimpArgs false
def inst_places.f (a0 : Int) : Option ((List (S93))) := if a0 = 1 then (some (([(⟨12, 20, 12⟩ : S93)] : List (S93)))) else (if a0 = 2 then (some (([(⟨20, 1, 31⟩ : S93), (⟨1, 10, 21⟩ : S93), (⟨11, 1, 20⟩ : S93), (⟨12, 8, 12⟩ : S93)] : List (S93)))) else (if a0 = 3 then (some (([(⟨0, 12, 20⟩ : S93)] : List (S93)))) else (if a0 = 4 then (some (([(⟨12, 1, 31⟩ : S93), (⟨5, 6, 25⟩ : S93), (⟨1, 4, 8⟩ : S93), (⟨11, 1, 7⟩ : S93)] : List (S93)))) else (if a0 = 5 then (some (([(⟨5, 7, 25⟩ : S93), (⟨0, 5, 7⟩ : S93)] : List (S93)))) else (if a0 = 6 then (some (([(⟨0, 6, 20⟩ : S93)] : List (S93)))) else (if a0 = 7 then (some (([(⟨0, 5, 20⟩ : S93)] : List (S93)))) else (if a0 = 9 then (some (([(⟨0, 8, 20⟩ : S93)] : List (S93)))) else (some ([] : List (S93))))))))))
set_option maxHeartbeats 8000000 in
set_option maxRecDepth 100000 in
theorem inst_places.calls (a0 : Int) (r : List (S93)) (w : World) (h : inst_places.f a0 = some r) :
  Calls Tryz.prog 42 #[.int .i64 a0] w fun e w' => ∃ v0_ : Value, e = .returned (v0_) ∧ Kd.R k93 93 w' w.heap.size (fun _ => True) v0_ r ∧ Below w.heap.size w w' := by
 have hu93 := Tryz.underlying93
 have HB := am (Below.refl w.heap.size w)
 have H := h
 clear h
 unfold inst_places.f at H
 by_cases c2 : a0 = 1
 ·rw [if_pos c2] at H
  obtain ⟨c2b0, c2b1⟩ := bqt c2
  clear c2
  obtain ⟨y112, hy112⟩ : ∃ y_ : List (S93), y_ = (([(⟨12, 20, 12⟩ : S93)] : List (S93))) := ⟨_, rfl⟩
  replace H : (some y112) = some r := by first | (rw [hy112]; with_reducible exact H) | (have H2_ := (Option.bind_some _ _).symm.trans H; rw [hy112]; with_reducible exact H2_) | (have H2_ := (Option.bind_some _ _).symm.trans H; with_reducible exact H2_) | with_reducible exact H | (rw [hy112]; exact H) | exact H
  have Ny112 := am hy112
  clear hy112
  obtain rfl := Option.some.inj H
  go_enter Tryz.func42, Tryz.ntmps42
  go_wp2_with (first | ((with_reducible refine gate_dst (N := 7) rfl ?_); refine Kd.R_lit k93 _ 93 ?hg (N := 7) ?hd (xs := ([(⟨12, 20, 12⟩ : S93)] : List (S93))) (inner := [.int .i64 12, .int .i64 20, .int .i64 12]) (ok := fun _ => True) (okp := fun _ => True) ?hr ?hp (fun _ hk => hk) trivial (Below.refl _ _) (Nat.le_refl _) (by simp) ?_; (case hd => rfl); (case hg => rfl); (case hr => first | (go_simp; done) | (go_simp; rfl)); (case hp => exact (Reps.c3 (show Kd.M k93 _ _ _ (⟨12, 20, 12⟩ : S93) [.int .i64 12, .int .i64 20, .int .i64 12] from (k93_mkM _ _ _ (⟨12, 20, 12⟩ : S93) )) (Reps.none _ _))); intro v113 w3 ho4 hb hg_ hnew_; clear hg_ hnew_; (first | rw [← Ny112.out] at ho4 | (simp only [Int.reduceToNat] at ho4; rw [← Ny112.out] at ho4)); have HO114 := am (Kd.R_lower ho4 (below_size (bb HB))); replace HB := bn HB hb; clear hb ho4))
  go_ret
  exact ⟨_, fe, by (with_reducible repeat (first | apply Kd.R_alloc | apply Kd.R_drewN | apply Kd.R_drew)); exact HO114.out, bb HB⟩
 ·rw [if_neg c2] at H
  obtain ⟨c2b0, c2b1⟩ := bqf c2
  by_cases c5 : a0 = 2
  ·rw [if_pos c5] at H
   obtain ⟨c5b0, c5b1⟩ := bqt c5
   clear c5
   obtain ⟨y115, hy115⟩ : ∃ y_ : List (S93), y_ = (([(⟨20, 1, 31⟩ : S93), (⟨1, 10, 21⟩ : S93), (⟨11, 1, 20⟩ : S93), (⟨12, 8, 12⟩ : S93)] : List (S93))) := ⟨_, rfl⟩
   replace H : (some y115) = some r := by first | (rw [hy115]; with_reducible exact H) | (have H2_ := (Option.bind_some _ _).symm.trans H; rw [hy115]; with_reducible exact H2_) | (have H2_ := (Option.bind_some _ _).symm.trans H; with_reducible exact H2_) | with_reducible exact H | (rw [hy115]; exact H) | exact H
   have Ny115 := am hy115
   clear hy115
   obtain rfl := Option.some.inj H
   go_enter Tryz.func42, Tryz.ntmps42
   go_wp2_with (first | ((with_reducible refine gate_dst (N := 14) rfl ?_); refine Kd.R_lit k93 _ 93 ?hg (N := 14) ?hd (xs := ([(⟨20, 1, 31⟩ : S93), (⟨1, 10, 21⟩ : S93), (⟨11, 1, 20⟩ : S93), (⟨12, 8, 12⟩ : S93)] : List (S93))) (inner := [.int .i64 20, .int .i64 1, .int .i64 31, .int .i64 1, .int .i64 10, .int .i64 21, .int .i64 11, .int .i64 1, .int .i64 20, .int .i64 12, .int .i64 8, .int .i64 12]) (ok := fun _ => True) (okp := fun _ => True) ?hr ?hp (fun _ hk => hk) trivial (Below.refl _ _) (Nat.le_refl _) (by simp) ?_; (case hd => rfl); (case hg => rfl); (case hr => first | (go_simp; done) | (go_simp; rfl)); (case hp => exact (Reps.c3 (show Kd.M k93 _ _ _ (⟨20, 1, 31⟩ : S93) [.int .i64 20, .int .i64 1, .int .i64 31] from (k93_mkM _ _ _ (⟨20, 1, 31⟩ : S93) )) (Reps.c3 (show Kd.M k93 _ _ _ (⟨1, 10, 21⟩ : S93) [.int .i64 1, .int .i64 10, .int .i64 21] from (k93_mkM _ _ _ (⟨1, 10, 21⟩ : S93) )) (Reps.c3 (show Kd.M k93 _ _ _ (⟨11, 1, 20⟩ : S93) [.int .i64 11, .int .i64 1, .int .i64 20] from (k93_mkM _ _ _ (⟨11, 1, 20⟩ : S93) )) (Reps.c3 (show Kd.M k93 _ _ _ (⟨12, 8, 12⟩ : S93) [.int .i64 12, .int .i64 8, .int .i64 12] from (k93_mkM _ _ _ (⟨12, 8, 12⟩ : S93) )) (Reps.none _ _)))))); intro v116 w6 ho7 hb hg_ hnew_; clear hg_ hnew_; (first | rw [← Ny115.out] at ho7 | (simp only [Int.reduceToNat] at ho7; rw [← Ny115.out] at ho7)); have HO117 := am (Kd.R_lower ho7 (below_size (bb HB))); replace HB := bn HB hb; clear hb ho7))
   go_ret
   exact ⟨_, fe, by (with_reducible repeat (first | apply Kd.R_alloc | apply Kd.R_drewN | apply Kd.R_drew)); exact HO117.out, bb HB⟩
  ·rw [if_neg c5] at H
   obtain ⟨c5b0, c5b1⟩ := bqf c5
   by_cases c8 : a0 = 3
   ·rw [if_pos c8] at H
    obtain ⟨c8b0, c8b1⟩ := bqt c8
    clear c8
    obtain ⟨y118, hy118⟩ : ∃ y_ : List (S93), y_ = (([(⟨0, 12, 20⟩ : S93)] : List (S93))) := ⟨_, rfl⟩
    replace H : (some y118) = some r := by first | (rw [hy118]; with_reducible exact H) | (have H2_ := (Option.bind_some _ _).symm.trans H; rw [hy118]; with_reducible exact H2_) | (have H2_ := (Option.bind_some _ _).symm.trans H; with_reducible exact H2_) | with_reducible exact H | (rw [hy118]; exact H) | exact H
    have Ny118 := am hy118
    clear hy118
    obtain rfl := Option.some.inj H
    go_enter Tryz.func42, Tryz.ntmps42
    go_wp2_with (first | ((with_reducible refine gate_dst (N := 18) rfl ?_); refine Kd.R_lit k93 _ 93 ?hg (N := 18) ?hd (xs := ([(⟨0, 12, 20⟩ : S93)] : List (S93))) (inner := [.int .i64 0, .int .i64 12, .int .i64 20]) (ok := fun _ => True) (okp := fun _ => True) ?hr ?hp (fun _ hk => hk) trivial (Below.refl _ _) (Nat.le_refl _) (by simp) ?_; (case hd => rfl); (case hg => rfl); (case hr => first | (go_simp; done) | (go_simp; rfl)); (case hp => exact (Reps.c3 (show Kd.M k93 _ _ _ (⟨0, 12, 20⟩ : S93) [.int .i64 0, .int .i64 12, .int .i64 20] from (k93_mkM _ _ _ (⟨0, 12, 20⟩ : S93) )) (Reps.none _ _))); intro v119 w9 ho10 hb hg_ hnew_; clear hg_ hnew_; (first | rw [← Ny118.out] at ho10 | (simp only [Int.reduceToNat] at ho10; rw [← Ny118.out] at ho10)); have HO120 := am (Kd.R_lower ho10 (below_size (bb HB))); replace HB := bn HB hb; clear hb ho10))
    go_ret
    exact ⟨_, fe, by (with_reducible repeat (first | apply Kd.R_alloc | apply Kd.R_drewN | apply Kd.R_drew)); exact HO120.out, bb HB⟩
   ·rw [if_neg c8] at H
    obtain ⟨c8b0, c8b1⟩ := bqf c8
    by_cases c11 : a0 = 4
    ·rw [if_pos c11] at H
     obtain ⟨c11b0, c11b1⟩ := bqt c11
     clear c11
     obtain ⟨y121, hy121⟩ : ∃ y_ : List (S93), y_ = (([(⟨12, 1, 31⟩ : S93), (⟨5, 6, 25⟩ : S93), (⟨1, 4, 8⟩ : S93), (⟨11, 1, 7⟩ : S93)] : List (S93))) := ⟨_, rfl⟩
     replace H : (some y121) = some r := by first | (rw [hy121]; with_reducible exact H) | (have H2_ := (Option.bind_some _ _).symm.trans H; rw [hy121]; with_reducible exact H2_) | (have H2_ := (Option.bind_some _ _).symm.trans H; with_reducible exact H2_) | with_reducible exact H | (rw [hy121]; exact H) | exact H
     have Ny121 := am hy121
     clear hy121
     obtain rfl := Option.some.inj H
     go_enter Tryz.func42, Tryz.ntmps42
     go_wp2_with (first | ((with_reducible refine gate_dst (N := 25) rfl ?_); refine Kd.R_lit k93 _ 93 ?hg (N := 25) ?hd (xs := ([(⟨12, 1, 31⟩ : S93), (⟨5, 6, 25⟩ : S93), (⟨1, 4, 8⟩ : S93), (⟨11, 1, 7⟩ : S93)] : List (S93))) (inner := [.int .i64 12, .int .i64 1, .int .i64 31, .int .i64 5, .int .i64 6, .int .i64 25, .int .i64 1, .int .i64 4, .int .i64 8, .int .i64 11, .int .i64 1, .int .i64 7]) (ok := fun _ => True) (okp := fun _ => True) ?hr ?hp (fun _ hk => hk) trivial (Below.refl _ _) (Nat.le_refl _) (by simp) ?_; (case hd => rfl); (case hg => rfl); (case hr => first | (go_simp; done) | (go_simp; rfl)); (case hp => exact (Reps.c3 (show Kd.M k93 _ _ _ (⟨12, 1, 31⟩ : S93) [.int .i64 12, .int .i64 1, .int .i64 31] from (k93_mkM _ _ _ (⟨12, 1, 31⟩ : S93) )) (Reps.c3 (show Kd.M k93 _ _ _ (⟨5, 6, 25⟩ : S93) [.int .i64 5, .int .i64 6, .int .i64 25] from (k93_mkM _ _ _ (⟨5, 6, 25⟩ : S93) )) (Reps.c3 (show Kd.M k93 _ _ _ (⟨1, 4, 8⟩ : S93) [.int .i64 1, .int .i64 4, .int .i64 8] from (k93_mkM _ _ _ (⟨1, 4, 8⟩ : S93) )) (Reps.c3 (show Kd.M k93 _ _ _ (⟨11, 1, 7⟩ : S93) [.int .i64 11, .int .i64 1, .int .i64 7] from (k93_mkM _ _ _ (⟨11, 1, 7⟩ : S93) )) (Reps.none _ _)))))); intro v122 w12 ho13 hb hg_ hnew_; clear hg_ hnew_; (first | rw [← Ny121.out] at ho13 | (simp only [Int.reduceToNat] at ho13; rw [← Ny121.out] at ho13)); have HO123 := am (Kd.R_lower ho13 (below_size (bb HB))); replace HB := bn HB hb; clear hb ho13))
     go_ret
     exact ⟨_, fe, by (with_reducible repeat (first | apply Kd.R_alloc | apply Kd.R_drewN | apply Kd.R_drew)); exact HO123.out, bb HB⟩
    ·rw [if_neg c11] at H
     obtain ⟨c11b0, c11b1⟩ := bqf c11
     by_cases c14 : a0 = 5
     ·rw [if_pos c14] at H
      obtain ⟨c14b0, c14b1⟩ := bqt c14
      clear c14
      obtain ⟨y124, hy124⟩ : ∃ y_ : List (S93), y_ = (([(⟨5, 7, 25⟩ : S93), (⟨0, 5, 7⟩ : S93)] : List (S93))) := ⟨_, rfl⟩
      replace H : (some y124) = some r := by first | (rw [hy124]; with_reducible exact H) | (have H2_ := (Option.bind_some _ _).symm.trans H; rw [hy124]; with_reducible exact H2_) | (have H2_ := (Option.bind_some _ _).symm.trans H; with_reducible exact H2_) | with_reducible exact H | (rw [hy124]; exact H) | exact H
      have Ny124 := am hy124
      clear hy124
      obtain rfl := Option.some.inj H
      go_enter Tryz.func42, Tryz.ntmps42
      go_wp2_with (first | ((with_reducible refine gate_dst (N := 30) rfl ?_); refine Kd.R_lit k93 _ 93 ?hg (N := 30) ?hd (xs := ([(⟨5, 7, 25⟩ : S93), (⟨0, 5, 7⟩ : S93)] : List (S93))) (inner := [.int .i64 5, .int .i64 7, .int .i64 25, .int .i64 0, .int .i64 5, .int .i64 7]) (ok := fun _ => True) (okp := fun _ => True) ?hr ?hp (fun _ hk => hk) trivial (Below.refl _ _) (Nat.le_refl _) (by simp) ?_; (case hd => rfl); (case hg => rfl); (case hr => first | (go_simp; done) | (go_simp; rfl)); (case hp => exact (Reps.c3 (show Kd.M k93 _ _ _ (⟨5, 7, 25⟩ : S93) [.int .i64 5, .int .i64 7, .int .i64 25] from (k93_mkM _ _ _ (⟨5, 7, 25⟩ : S93) )) (Reps.c3 (show Kd.M k93 _ _ _ (⟨0, 5, 7⟩ : S93) [.int .i64 0, .int .i64 5, .int .i64 7] from (k93_mkM _ _ _ (⟨0, 5, 7⟩ : S93) )) (Reps.none _ _)))); intro v125 w15 ho16 hb hg_ hnew_; clear hg_ hnew_; (first | rw [← Ny124.out] at ho16 | (simp only [Int.reduceToNat] at ho16; rw [← Ny124.out] at ho16)); have HO126 := am (Kd.R_lower ho16 (below_size (bb HB))); replace HB := bn HB hb; clear hb ho16))
      go_ret
      exact ⟨_, fe, by (with_reducible repeat (first | apply Kd.R_alloc | apply Kd.R_drewN | apply Kd.R_drew)); exact HO126.out, bb HB⟩
     ·rw [if_neg c14] at H
      obtain ⟨c14b0, c14b1⟩ := bqf c14
      by_cases c17 : a0 = 6
      ·rw [if_pos c17] at H
       obtain ⟨c17b0, c17b1⟩ := bqt c17
       clear c17
       obtain ⟨y127, hy127⟩ : ∃ y_ : List (S93), y_ = (([(⟨0, 6, 20⟩ : S93)] : List (S93))) := ⟨_, rfl⟩
       replace H : (some y127) = some r := by first | (rw [hy127]; with_reducible exact H) | (have H2_ := (Option.bind_some _ _).symm.trans H; rw [hy127]; with_reducible exact H2_) | (have H2_ := (Option.bind_some _ _).symm.trans H; with_reducible exact H2_) | with_reducible exact H | (rw [hy127]; exact H) | exact H
       have Ny127 := am hy127
       clear hy127
       obtain rfl := Option.some.inj H
       go_enter Tryz.func42, Tryz.ntmps42
       go_wp2_with (first | ((with_reducible refine gate_dst (N := 34) rfl ?_); refine Kd.R_lit k93 _ 93 ?hg (N := 34) ?hd (xs := ([(⟨0, 6, 20⟩ : S93)] : List (S93))) (inner := [.int .i64 0, .int .i64 6, .int .i64 20]) (ok := fun _ => True) (okp := fun _ => True) ?hr ?hp (fun _ hk => hk) trivial (Below.refl _ _) (Nat.le_refl _) (by simp) ?_; (case hd => rfl); (case hg => rfl); (case hr => first | (go_simp; done) | (go_simp; rfl)); (case hp => exact (Reps.c3 (show Kd.M k93 _ _ _ (⟨0, 6, 20⟩ : S93) [.int .i64 0, .int .i64 6, .int .i64 20] from (k93_mkM _ _ _ (⟨0, 6, 20⟩ : S93) )) (Reps.none _ _))); intro v128 w18 ho19 hb hg_ hnew_; clear hg_ hnew_; (first | rw [← Ny127.out] at ho19 | (simp only [Int.reduceToNat] at ho19; rw [← Ny127.out] at ho19)); have HO129 := am (Kd.R_lower ho19 (below_size (bb HB))); replace HB := bn HB hb; clear hb ho19))
       go_ret
       exact ⟨_, fe, by (with_reducible repeat (first | apply Kd.R_alloc | apply Kd.R_drewN | apply Kd.R_drew)); exact HO129.out, bb HB⟩
      ·rw [if_neg c17] at H
       obtain ⟨c17b0, c17b1⟩ := bqf c17
       by_cases c20 : a0 = 7
       ·rw [if_pos c20] at H
        obtain ⟨c20b0, c20b1⟩ := bqt c20
        clear c20
        obtain ⟨y130, hy130⟩ : ∃ y_ : List (S93), y_ = (([(⟨0, 5, 20⟩ : S93)] : List (S93))) := ⟨_, rfl⟩
        replace H : (some y130) = some r := by first | (rw [hy130]; with_reducible exact H) | (have H2_ := (Option.bind_some _ _).symm.trans H; rw [hy130]; with_reducible exact H2_) | (have H2_ := (Option.bind_some _ _).symm.trans H; with_reducible exact H2_) | with_reducible exact H | (rw [hy130]; exact H) | exact H
        have Ny130 := am hy130
        clear hy130
        obtain rfl := Option.some.inj H
        go_enter Tryz.func42, Tryz.ntmps42
        go_wp2_with (first | ((with_reducible refine gate_dst (N := 38) rfl ?_); refine Kd.R_lit k93 _ 93 ?hg (N := 38) ?hd (xs := ([(⟨0, 5, 20⟩ : S93)] : List (S93))) (inner := [.int .i64 0, .int .i64 5, .int .i64 20]) (ok := fun _ => True) (okp := fun _ => True) ?hr ?hp (fun _ hk => hk) trivial (Below.refl _ _) (Nat.le_refl _) (by simp) ?_; (case hd => rfl); (case hg => rfl); (case hr => first | (go_simp; done) | (go_simp; rfl)); (case hp => exact (Reps.c3 (show Kd.M k93 _ _ _ (⟨0, 5, 20⟩ : S93) [.int .i64 0, .int .i64 5, .int .i64 20] from (k93_mkM _ _ _ (⟨0, 5, 20⟩ : S93) )) (Reps.none _ _))); intro v131 w21 ho22 hb hg_ hnew_; clear hg_ hnew_; (first | rw [← Ny130.out] at ho22 | (simp only [Int.reduceToNat] at ho22; rw [← Ny130.out] at ho22)); have HO132 := am (Kd.R_lower ho22 (below_size (bb HB))); replace HB := bn HB hb; clear hb ho22))
        go_ret
        exact ⟨_, fe, by (with_reducible repeat (first | apply Kd.R_alloc | apply Kd.R_drewN | apply Kd.R_drew)); exact HO132.out, bb HB⟩
       ·rw [if_neg c20] at H
        obtain ⟨c20b0, c20b1⟩ := bqf c20
        by_cases c23 : a0 = 9
        ·rw [if_pos c23] at H
         obtain ⟨c23b0, c23b1⟩ := bqt c23
         clear c23
         obtain ⟨y133, hy133⟩ : ∃ y_ : List (S93), y_ = (([(⟨0, 8, 20⟩ : S93)] : List (S93))) := ⟨_, rfl⟩
         replace H : (some y133) = some r := by first | (rw [hy133]; with_reducible exact H) | (have H2_ := (Option.bind_some _ _).symm.trans H; rw [hy133]; with_reducible exact H2_) | (have H2_ := (Option.bind_some _ _).symm.trans H; with_reducible exact H2_) | with_reducible exact H | (rw [hy133]; exact H) | exact H
         have Ny133 := am hy133
         clear hy133
         obtain rfl := Option.some.inj H
         go_enter Tryz.func42, Tryz.ntmps42
         go_wp2_with (first | ((with_reducible refine gate_dst (N := 42) rfl ?_); refine Kd.R_lit k93 _ 93 ?hg (N := 42) ?hd (xs := ([(⟨0, 8, 20⟩ : S93)] : List (S93))) (inner := [.int .i64 0, .int .i64 8, .int .i64 20]) (ok := fun _ => True) (okp := fun _ => True) ?hr ?hp (fun _ hk => hk) trivial (Below.refl _ _) (Nat.le_refl _) (by simp) ?_; (case hd => rfl); (case hg => rfl); (case hr => first | (go_simp; done) | (go_simp; rfl)); (case hp => exact (Reps.c3 (show Kd.M k93 _ _ _ (⟨0, 8, 20⟩ : S93) [.int .i64 0, .int .i64 8, .int .i64 20] from (k93_mkM _ _ _ (⟨0, 8, 20⟩ : S93) )) (Reps.none _ _))); intro v134 w24 ho25 hb hg_ hnew_; clear hg_ hnew_; (first | rw [← Ny133.out] at ho25 | (simp only [Int.reduceToNat] at ho25; rw [← Ny133.out] at ho25)); have HO135 := am (Kd.R_lower ho25 (below_size (bb HB))); replace HB := bn HB hb; clear hb ho25))
         go_ret
         exact ⟨_, fe, by (with_reducible repeat (first | apply Kd.R_alloc | apply Kd.R_drewN | apply Kd.R_drew)); exact HO135.out, bb HB⟩
        ·rw [if_neg c23] at H
         obtain ⟨c23b0, c23b1⟩ := bqf c23
         obtain rfl := Option.some.inj H
         go_enter Tryz.func42, Tryz.ntmps42
         go_wp2
         go_ret
         exact ⟨_, fe, by first | exact Kd.R_nil _ _ _ _ _ | exact Kd.N_nil _ _ _ _ _ | exact Kd.V_nil _ _ _ _ _ | exact Kd.Q_nil _ _ _ _ _ | exact Kd.S_nil _ _ _ _ _, bb HB⟩
def bits_is.f (a0 : Int) (a1 : Int) : Option (Bool) := if a0 ≥ 0 then (if a0 < 64 then (some (decide (a1 ≥ 1))) else (some false)) else (some false)
set_option maxHeartbeats 8000000 in
set_option maxRecDepth 100000 in
theorem bits_is.calls (a0 : Int) (a1 : Int) (r : Bool) (w : World) (h : bits_is.f a0 a1 = some r) :
  Calls Tryz.prog 79 #[.int .i64 a0, .int .i64 a1] w fun e w' => e = .returned (.bool r) ∧ Drawn0 w w' := by
 have H := h
 clear h
 unfold bits_is.f at H
 by_cases c3 : a0 ≥ 0
 ·rw [if_pos c3] at H
  have c3b0 : decide (0 ≤ a0) = true := decide_eq_true c3
  clear c3
  by_cases c4 : a0 < 64
  ·rw [if_pos c4] at H
   have c4b0 : decide (a0 < 64) = true := decide_eq_true c4
   clear c4
   obtain rfl := Option.some.inj H
   go_enter Tryz.func79, Tryz.ntmps79
   go_wp2
   go_ret
   exact fd
  ·rw [if_neg c4] at H
   have c4b0 : decide (a0 < 64) = false := decide_eq_false c4
   clear c4
   obtain rfl := Option.some.inj H
   go_enter Tryz.func79, Tryz.ntmps79
   go_wp2
   go_ret
   exact fd
 ·rw [if_neg c3] at H
  have c3b0 : decide (0 ≤ a0) = false := decide_eq_false c3
  clear c3
  obtain rfl := Option.some.inj H
  go_enter Tryz.func79, Tryz.ntmps79
  go_wp2
  go_ret
  exact fd
def bits_mask0.f (a0 : Int) : Option (Int) := if a0 ≥ 64 then (some 18446744073709551615) else (if 0 ≤ a0 then (some (IntKind.u64.wrap ((shl .u64 1 a0) - 1))) else (none))
set_option maxHeartbeats 8000000 in
set_option maxRecDepth 100000 in
theorem bits_mask0.calls (a0 : Int) (r : Int) (w : World) (h : bits_mask0.f a0 = some r) :
  Calls Tryz.prog 80 #[.int .i64 a0] w fun e w' => e = .returned (.int .u64 r) ∧ Drawn0 w w' := by
 have H := h
 clear h
 unfold bits_mask0.f at H
 by_cases c2 : a0 ≥ 64
 ·rw [if_pos c2] at H
  have c2b0 : decide (64 ≤ a0) = true := decide_eq_true c2
  clear c2
  obtain rfl := Option.some.inj H
  go_enter Tryz.func80, Tryz.ntmps80
  go_wp2
  go_ret
  exact fd
 ·rw [if_neg c2] at H
  have c2b0 : decide (64 ≤ a0) = false := decide_eq_false c2
  clear c2
  by_cases c3 : 0 ≤ a0
  ·rw [if_pos c3] at H
   have c3b0 := eq_true c3
   have c3b1 : decide (0 ≤ a0) = true := decide_eq_true c3
   clear c3
   obtain ⟨ji4, hji4⟩ : ∃ j_ : Int, (shl .u64 1 a0) = j_ := ⟨_, rfl⟩
   replace H : (some (IntKind.u64.wrap ((ji4) - 1))) = some r := by first | (rw [hji4] at H; exact H) | (simp only [hji4] at H ⊢; exact H)
   have hji4_ : (IntKind.u64.wrap (1 * 2 ^ min a0.toNat 64)) = ji4 := hji4
   have hji4z : a0 ≤ 64 → (IntKind.u64.wrap (1 * 2 ^ a0.toNat)) = ji4 := shl_small hji4
   have hji4u : (IntKind.u64.wrap (2 ^ min a0.toNat 64)) = ji4 := by have h_ := hji4_; rw [Int.one_mul] at h_; exact h_
   have hji4v : a0 ≤ 64 → (IntKind.u64.wrap (2 ^ a0.toNat)) = ji4 := fun hle_ => by have h_ := hji4z hle_; rw [Int.one_mul] at h_; exact h_
   obtain rfl := Option.some.inj H
   go_enter Tryz.func80, Tryz.ntmps80
   go_wp2
   go_ret
   exact ⟨by first | rfl | (simp; done) | (simp only [← hji4] <;> (first | rfl | simp)) | (simp [*]; done), dd⟩
  ·rw [if_neg c3] at H
   exact absurd H (by simp)
def bits_mask.f (a0 : Int) : Option (Int) := if 1 ≤ a0 then some (2 ^ (min a0 64).toNat - 1) else none
theorem bits_mask.spec (a0 r : Int) (h : bits_mask.f a0 = some r) : bits_mask0.f a0 = some r := by
 unfold bits_mask.f at h
 by_cases hu : 1 ≤ a0
 ·rw [if_pos hu] at h
  obtain rfl := Option.some.inj h
  unfold bits_mask0.f
  by_cases h2 : a0 ≥ 64
  ·rw [if_pos h2, show (min a0 64).toNat = 64 from by omega]; rfl
  ·have e : shl .u64 1 a0 = 2 ^ a0.toNat := by
    unfold shl
    rw [Nat.min_eq_left (show a0.toNat ≤ IntKind.u64.bits by show _ ≤ 64; omega), Int.one_mul, ipow]
    exact wrap_nat _ (Nat.pow_lt_pow_right (by decide) (by omega))
   have hp := ipos a0.toNat
   have hq : (2 : Int) ^ a0.toNat ≤ 2 ^ 63 := ipow_le _ _ (by omega)
   rw [if_neg h2, if_pos (by omega), e, show (min a0 64).toNat = a0.toNat from by omega, U64.wrap_eq (by unfold U64; omega)]
 ·rw [if_neg hu] at h; exact absurd h (by simp)
theorem bits_mask.calls (a0 : Int) (r : Int) (w : World) (h : bits_mask.f a0 = some r) :
  Calls Tryz.prog 80 #[.int .i64 a0] w fun e w' => e = .returned (.int .u64 r) ∧ Drawn0 w w' := by
 have hk := bits_mask.spec a0 r h
 exact bits_mask0.calls a0 r w hk
def bits_Place0.f (a0 : Int) (a1 : Int) (a2 : Int) (a3 : Int) : Option (Int) := (bits_is.f a1 a2).bind fun t136 => (if t136 = true then ((bits_mask.f a2).bind fun t137 => (if 0 ≤ a1 then (some (Go.bits .or .u64 (Go.bits .andNot .u64 a0 (shl .u64 t137 a1)) (Go.bits .and .u64 (shl .u64 a3 a1) (shl .u64 t137 a1)))) else (none))) else (some a0))
set_option maxHeartbeats 8000000 in
set_option maxRecDepth 100000 in
theorem bits_Place0.calls (a0 : Int) (a1 : Int) (a2 : Int) (a3 : Int) (r : Int) (w : World) (h : bits_Place0.f a0 a1 a2 a3 = some r) :
  Calls Tryz.prog 43 #[.int .u64 a0, .int .i64 a1, .int .i64 a2, .int .u64 a3] w fun e w' => e = .returned (.int .u64 r) ∧ Drawn0 w w' := by
 have H := h
 clear h
 unfold bits_Place0.f at H
 obtain ⟨t136, A5, H⟩ := bam H
 try dsimp only at H
 by_cases c6 : t136 = true
 ·subst c6
  rw [if_pos rfl] at H
  obtain ⟨t137, A7, H⟩ := bam H
  try dsimp only at H
  by_cases c8 : 0 ≤ a1
  ·rw [if_pos c8] at H
   have c8b0 := eq_true c8
   have c8b1 : decide (0 ≤ a1) = true := decide_eq_true c8
   clear c8
   obtain ⟨ji9, hji9⟩ : ∃ j_ : Int, (shl .u64 t137 a1) = j_ := ⟨_, rfl⟩
   replace H : (some (Go.bits .or .u64 (Go.bits .andNot .u64 a0 (ji9)) (Go.bits .and .u64 (shl .u64 a3 a1) (ji9)))) = some r := by first | (rw [hji9] at H; exact H) | (simp only [hji9] at H ⊢; exact H)
   (try rw [hji9] at A5)
   (try rw [hji9] at A7)
   have hji9_ : (IntKind.u64.wrap (t137 * 2 ^ min a1.toNat 64)) = ji9 := hji9
   have hji9z : a1 ≤ 64 → (IntKind.u64.wrap (t137 * 2 ^ a1.toNat)) = ji9 := shl_small hji9
   have c10b0 := eq_true (of_decide_eq_true (by first | (with_reducible assumption) | assumption) : 0 ≤ a1)
   obtain ⟨ji11, hji11⟩ : ∃ j_ : Int, (shl .u64 a3 a1) = j_ := ⟨_, rfl⟩
   replace H : (some (Go.bits .or .u64 (Go.bits .andNot .u64 a0 (ji9)) (Go.bits .and .u64 (ji11) (ji9)))) = some r := by first | (rw [hji11] at H; exact H) | (simp only [hji11] at H ⊢; exact H)
   (try rw [hji11] at A5)
   (try rw [hji11] at A7)
   have hji11_ : (IntKind.u64.wrap (a3 * 2 ^ min a1.toNat 64)) = ji11 := hji11
   have hji11z : a1 ≤ 64 → (IntKind.u64.wrap (a3 * 2 ^ a1.toNat)) = ji11 := shl_small hji11
   obtain rfl := Option.some.inj H
   go_enter Tryz.func43, Tryz.ntmps43
   go_wp2_with (first | ((with_reducible refine gate_callee (f := 79) rfl ?_); refine gl (some 12) rfl rfl Tryz.func79 rfl #[.int .i64 a1, .int .i64 a2] rfl ?_; (with_reducible refine (bits_is.calls a1 a2 true _ A5.out).mono ?_); rintro e w' ⟨rfl, ⟨nd, rfl⟩⟩; refine ⟨_, rfl, ?_⟩) | ((with_reducible refine gate_callee (f := 80) rfl ?_); refine gl (some 16) rfl rfl Tryz.func80 rfl #[.int .i64 a2] rfl ?_; (with_reducible refine (bits_mask.calls a2 t137 _ A7.out).mono ?_); rintro e w' ⟨rfl, ⟨nd, rfl⟩⟩; refine ⟨_, rfl, ?_⟩))
   go_ret
   exact ⟨by first | rfl | (simp; done) | (simp only [← hji9, ← hji11] <;> (first | rfl | simp)) | (simp [*]; done), dd⟩
  ·rw [if_neg c8] at H
   exact absurd H (by simp)
 ·replace c6 := Bool.eq_false_iff.mpr c6
  subst c6
  rw [if_neg ff] at H
  obtain rfl := Option.some.inj H
  go_enter Tryz.func43, Tryz.ntmps43
  go_wp2_with (first | ((with_reducible refine gate_callee (f := 79) rfl ?_); refine gl (some 12) rfl rfl Tryz.func79 rfl #[.int .i64 a1, .int .i64 a2] rfl ?_; (with_reducible refine (bits_is.calls a1 a2 false _ A5.out).mono ?_); rintro e w' ⟨rfl, ⟨nd, rfl⟩⟩; refine ⟨_, rfl, ?_⟩))
  go_ret
  exact fd
def bits_Place.f (a0 : Int) (a1 : Int) (a2 : Int) (a3 : Int) : Option (Int) := if U64 a0 ∧ U64 a3 then some (placeOf a0 a1 a2 a3) else none
theorem bits_Place.spec (a0 a1 a2 a3 r : Int) (h : bits_Place.f a0 a1 a2 a3 = some r) : bits_Place0.f a0 a1 a2 a3 = some r := by
 unfold bits_Place.f at h
 by_cases hu : U64 a0 ∧ U64 a3
 ·rw [if_pos hu] at h
  obtain rfl := Option.some.inj h
  unfold bits_Place0.f bits_is.f
  by_cases h1 : a1 ≥ 0
  ·rw [if_pos h1]
   by_cases h2 : a1 < 64
   ·rw [if_pos h2]
    simp only [Option.bind_some]
    by_cases h3 : a2 ≥ 1
    ·rw [decide_eq_true h3, if_pos rfl, bits_mask.f, if_pos h3]
     simp only [Option.bind_some]
     rw [if_pos h1]
     obtain ⟨X, rfl, hX⟩ := hu.1.nat
     obtain ⟨V, rfl, hV⟩ := hu.2.nat
     obtain ⟨L, rfl⟩ : ∃ L : Nat, a1 = L := ⟨a1.toNat, by omega⟩
     obtain ⟨M, rfl⟩ : ∃ M : Nat, a2 = M := ⟨a2.toNat, by omega⟩
     rw [place_nat X L M V (by omega) (by omega), show (min (M : Int) 64).toNat = min M 64 from by omega]
     have es : ∀ Y : Nat, shl .u64 (Y : Int) (L : Int) = ((Y * 2 ^ L % 2 ^ 64 : Nat) : Int) := fun Y => by
      unfold shl; rw [Int.toNat_natCast, Nat.min_eq_left (show L ≤ IntKind.u64.bits by show _ ≤ 64; omega), u64w]; simp
     have em : ((2 : Int) ^ (min M 64) - 1) = ((2 ^ (min M 64) - 1 : Nat) : Int) := by rw [ipow]; have := Nat.two_pow_pos (min M 64); omega
     have hlt : ∀ Y : Nat, Y % 2 ^ 64 < 2 ^ 64 := fun Y => Nat.mod_lt _ (by decide)
     have hlt2 : ∀ Y Z : Nat, (Y % 2 ^ 64) &&& Z < 2 ^ 64 := fun Y Z => Nat.lt_of_le_of_lt Nat.and_le_left (hlt _)
     rw [em, es, es, andNot_nat _ _ hX (hlt _), and_nat _ _ (hlt _) (hlt _), or_nat _ _ (minus_lt _ _ hX) (hlt2 _ _)]
     congr 2
     apply Nat.eq_of_testBit_eq
     intro i
     rw [testBit_place, Nat.testBit_or, Nat.testBit_and, testBit_minus _ _ _ hX (hlt _)]
     rw [Nat.testBit_mod_two_pow, Nat.testBit_mod_two_pow, Nat.mul_comm _ (2 ^ L), Nat.mul_comm _ (2 ^ L), Nat.testBit_two_pow_mul, Nat.testBit_two_pow_mul, Nat.testBit_two_pow_sub_one]
     by_cases hi : i < 64
     ·by_cases hl : L ≤ i
      ·by_cases hm : i - L < min M 64
       ·rw [if_pos (by omega)]; simp [hi, hl, hm]
       ·rw [if_neg (by omega)]; simp [hi, hl, hm]
      ·rw [if_neg (by omega)]; simp [hi, hl]
     ·rw [bits_of_lt hX (by omega), if_neg (by omega)]; simp [hi]
    ·rw [decide_eq_false h3, if_neg (by decide), placeOf, if_pos (Or.inr (Or.inr (by omega)))]
   ·rw [if_neg h2]; simp only [Option.bind_some]
    rw [if_neg (by decide), placeOf, if_pos (Or.inr (Or.inl (by omega)))]
  ·rw [if_neg h1]; simp only [Option.bind_some]
   rw [if_neg (by decide), placeOf, if_pos (Or.inl (by omega))]
 ·rw [if_neg hu] at h; exact absurd h (by simp)
theorem bits_Place.eq {a0 a3 : Int} (h : U64 a0) (h3 : U64 a3) (a1 a2 : Int) : bits_Place.f a0 a1 a2 a3 = some (placeOf a0 a1 a2 a3) := if_pos ⟨h, h3⟩
theorem bits_Place.calls (a0 : Int) (a1 : Int) (a2 : Int) (a3 : Int) (r : Int) (w : World) (h : bits_Place.f a0 a1 a2 a3 = some r) :
  Calls Tryz.prog 43 #[.int .u64 a0, .int .i64 a1, .int .i64 a2, .int .u64 a3] w fun e w' => e = .returned (.int .u64 r) ∧ Drawn0 w w' := by
 have hk := bits_Place.spec a0 a1 a2 a3 r h
 exact bits_Place0.calls a0 a1 a2 a3 r w hk
end Go.Proofs.YtcjfafhbohkhlaaGreat.PAll
