/- DERIVED. The contracts of the Go functions that one law reaches: each call returns what the plain function beside it says, under that theorem's own premises. Written by a program (hp.py) over the kit's printed words. -/
import Derived.Test.YtlclelgcdainfaaPAllx0
import Derived.Test.YtlclelgcdainfaaPAllx1
namespace Go.Proofs.Ytlclelgcdainfaa.PAll
open Go.RowKit Go.Proofs.YtlclelgcdainfaaW.PrintWords Go.Proofs.YtlclelgcdainfaaW.PrintLast Go.Proofs.YtlclelgcdainfaaW.PrintMore Go.Proofs.Ytlclelgcdainfaa.M
attribute [local go_sem] max2_int min2_int max_two min_two max_three min_three max_four min_four   -- for this text's walks alone
set_option linter.unusedVariables false
set_option linter.unusedSimpArgs false

/-! ### bits_Field0: function 18 -/
def bits_Field0.f (a0 : Int) (a1 : Int) (a2 : Int) : Option (Int) := (bits_is.f a1 a2).bind fun t107 => (if t107 = true then (if 0 ≤ a1 then ((bits_mask.f a2).bind fun t108 => (some (Go.bits .and .u64 (shr .u64 a0 a1) t108))) else (none)) else (some 0))
set_option maxHeartbeats 8000000 in
set_option maxRecDepth 100000 in
theorem bits_Field0.calls (a0 : Int) (a1 : Int) (a2 : Int) (r : Int) (w : World) (h : bits_Field0.f a0 a1 a2 = some r) :
    Calls Try.prog 18 #[.int .u64 a0, .int .i64 a1, .int .i64 a2] w fun e w' => e = .returned (.int .u64 r) ∧ Drawn0 w w' := by
  have H : ((bits_is.f a1 a2).bind fun t107 => (if t107 = true then (if 0 ≤ a1 then ((bits_mask.f a2).bind fun t108 => (some (Go.bits .and .u64 (shr .u64 a0 a1) t108))) else (none)) else (some 0))) = some r := h
  clear h
  replace H := Option.bind_eq_some_iff.mp H
  obtain ⟨t107, A40, H⟩ := H
  replace H : (if t107 = true then (if 0 ≤ a1 then ((bits_mask.f a2).bind fun t108 => (some (Go.bits .and .u64 (shr .u64 a0 a1) t108))) else (none)) else (some 0)) = some r := H
  have A4 := Aside0.mk A40
  clear A40
  by_cases c5 : t107 = true
  · subst c5
    have H1 : (if 0 ≤ a1 then ((bits_mask.f a2).bind fun t108 => (some (Go.bits .and .u64 (shr .u64 a0 a1) t108))) else (none)) = some r := by rw [if_pos rfl] at H; exact H
    clear H
    have H := H1
    clear H1
    by_cases c6 : 0 ≤ a1
    · rw [if_pos c6] at H
      have c6b0 := eq_true c6
      have c6b1 : decide (0 ≤ a1) = true := decide_eq_true c6
      clear c6
      obtain ⟨ji7, hji7⟩ : ∃ j_ : Int, (shr .u64 a0 a1) = j_ := ⟨_, rfl⟩
      replace H : ((bits_mask.f a2).bind fun t108 => (some (Go.bits .and .u64 (ji7) t108))) = some r := by first | (rw [hji7] at H; exact H) | (simp only [hji7] at H ⊢; exact H)
      (try rw [hji7] at A4)
      have hji7_ : (a0 / 2 ^ min a1.toNat 64) = ji7 := hji7
      have hji7z : a1 ≤ 64 → (a0 / 2 ^ a1.toNat) = ji7 := shr_small hji7
      replace H := Option.bind_eq_some_iff.mp H
      obtain ⟨t108, A80, H⟩ := H
      replace H : (some (Go.bits .and .u64 (ji7) t108)) = some r := H
      have A8 := Aside0.mk A80
      clear A80
      obtain rfl := Option.some.inj H
      go_enter Try.func18, Try.ntmps18
      go_wp2_with (first | (go_at_call 29; (with_reducible refine (bits_is.calls a1 a2 true _ A4.out).mono ?_); rintro e w' ⟨rfl, ⟨nd, rfl⟩⟩; (try first | exact ⟨rfl, _, World.drewN_drewN _ _ _⟩ | exact ⟨rfl, _, Eq.trans (World.drewN_drewN _ _ _) (congrArg (World.drewN _) (Nat.add_assoc _ _ _))⟩)) | (go_at_call 30; (with_reducible refine (bits_mask.calls a2 t108 _ A8.out).mono ?_); rintro e w' ⟨rfl, ⟨nd, rfl⟩⟩; (try first | exact ⟨rfl, _, World.drewN_drewN _ _ _⟩ | exact ⟨rfl, _, Eq.trans (World.drewN_drewN _ _ _) (congrArg (World.drewN _) (Nat.add_assoc _ _ _))⟩)))
      repeat (go_quiet (first | (go_at_call 29; (with_reducible refine (bits_is.calls a1 a2 true _ A4.out).mono ?_); rintro e w' ⟨rfl, ⟨nd, rfl⟩⟩; (try first | exact ⟨rfl, _, World.drewN_drewN _ _ _⟩ | exact ⟨rfl, _, Eq.trans (World.drewN_drewN _ _ _) (congrArg (World.drewN _) (Nat.add_assoc _ _ _))⟩)) | (go_at_call 30; (with_reducible refine (bits_mask.calls a2 t108 _ A8.out).mono ?_); rintro e w' ⟨rfl, ⟨nd, rfl⟩⟩; (try first | exact ⟨rfl, _, World.drewN_drewN _ _ _⟩ | exact ⟨rfl, _, Eq.trans (World.drewN_drewN _ _ _) (congrArg (World.drewN _) (Nat.add_assoc _ _ _))⟩))); try go_wp2_with (first | (go_at_call 29; (with_reducible refine (bits_is.calls a1 a2 true _ A4.out).mono ?_); rintro e w' ⟨rfl, ⟨nd, rfl⟩⟩; (try first | exact ⟨rfl, _, World.drewN_drewN _ _ _⟩ | exact ⟨rfl, _, Eq.trans (World.drewN_drewN _ _ _) (congrArg (World.drewN _) (Nat.add_assoc _ _ _))⟩)) | (go_at_call 30; (with_reducible refine (bits_mask.calls a2 t108 _ A8.out).mono ?_); rintro e w' ⟨rfl, ⟨nd, rfl⟩⟩; (try first | exact ⟨rfl, _, World.drewN_drewN _ _ _⟩ | exact ⟨rfl, _, Eq.trans (World.drewN_drewN _ _ _) (congrArg (World.drewN _) (Nat.add_assoc _ _ _))⟩))))
      go_ret
      exact ⟨by first | rfl | (simp; done) | (simp only [← hji7] <;> (first | rfl | simp)) | (simp [*]; done), by repeat (first | exact Drawn0.refl _ | apply Drawn0.step)⟩
    · rw [if_neg c6] at H
      exact absurd H (by simp)
  · replace c5 := Bool.eq_false_iff.mpr c5
    subst c5
    have H1 : (some 0) = some r := by rw [if_neg (show ¬ (false = true) by decide)] at H; exact H
    clear H
    have H := H1
    clear H1
    obtain rfl := Option.some.inj H
    go_enter Try.func18, Try.ntmps18
    go_wp2_with (first | (go_at_call 29; (with_reducible refine (bits_is.calls a1 a2 false _ A4.out).mono ?_); rintro e w' ⟨rfl, ⟨nd, rfl⟩⟩; (try first | exact ⟨rfl, _, World.drewN_drewN _ _ _⟩ | exact ⟨rfl, _, Eq.trans (World.drewN_drewN _ _ _) (congrArg (World.drewN _) (Nat.add_assoc _ _ _))⟩)))
    repeat (go_quiet (first | (go_at_call 29; (with_reducible refine (bits_is.calls a1 a2 false _ A4.out).mono ?_); rintro e w' ⟨rfl, ⟨nd, rfl⟩⟩; (try first | exact ⟨rfl, _, World.drewN_drewN _ _ _⟩ | exact ⟨rfl, _, Eq.trans (World.drewN_drewN _ _ _) (congrArg (World.drewN _) (Nat.add_assoc _ _ _))⟩))); try go_wp2_with (first | (go_at_call 29; (with_reducible refine (bits_is.calls a1 a2 false _ A4.out).mono ?_); rintro e w' ⟨rfl, ⟨nd, rfl⟩⟩; (try first | exact ⟨rfl, _, World.drewN_drewN _ _ _⟩ | exact ⟨rfl, _, Eq.trans (World.drewN_drewN _ _ _) (congrArg (World.drewN _) (Nat.add_assoc _ _ _))⟩))))
    go_ret
    exact ⟨by first | rfl | (simp; done) | (simp [*]; done), by repeat (first | exact Drawn0.refl _ | apply Drawn0.step)⟩
def bits_Field.f (a0 : Int) (a1 : Int) (a2 : Int) : Option (Int) := if U64 a0 then some (fieldOf a0 a1 a2) else none
theorem bits_Field.spec (a0 a1 a2 r : Int) (h : bits_Field.f a0 a1 a2 = some r) : bits_Field0.f a0 a1 a2 = some r := by
  unfold bits_Field.f at h
  by_cases hu : U64 a0
  · rw [if_pos hu] at h
    obtain rfl := Option.some.inj h
    unfold bits_Field0.f bits_is.f
    by_cases h1 : a1 ≥ 0
    · rw [if_pos h1]
      by_cases h2 : a1 < 64
      · rw [if_pos h2]
        simp only [Option.bind_some]
        by_cases h3 : a2 ≥ 1
        · rw [decide_eq_true h3, if_pos rfl, if_pos h1, bits_mask.f, if_pos h3]
          simp only [Option.bind_some]
          unfold fieldOf
          rw [if_neg (by omega)]
          have e : shr .u64 a0 a1 = a0 / 2 ^ a1.toNat := by
            unfold shr; rw [Nat.min_eq_left (show a1.toNat ≤ IntKind.u64.bits by show _ ≤ 64; omega)]
          have hr : U64 (a0 / 2 ^ a1.toNat) := ⟨Int.ediv_nonneg hu.1 (Int.le_of_lt (ipos _)), Int.le_trans (Int.ediv_le_self _ hu.1) hu.2⟩
          rw [e, and_mask _ hr _ (by omega)]
        · rw [decide_eq_false h3, if_neg (by decide), fieldOf, if_pos (Or.inr (Or.inr (by omega)))]
      · rw [if_neg h2]; simp only [Option.bind_some]
        rw [if_neg (by decide), fieldOf, if_pos (Or.inr (Or.inl (by omega)))]
    · rw [if_neg h1]; simp only [Option.bind_some]
      rw [if_neg (by decide), fieldOf, if_pos (Or.inl (by omega))]
  · rw [if_neg hu] at h; exact absurd h (by simp)
theorem bits_Field.eq {a0 : Int} (h : U64 a0) (a1 a2 : Int) : bits_Field.f a0 a1 a2 = some (fieldOf a0 a1 a2) := if_pos h

theorem bits_Field.calls (a0 : Int) (a1 : Int) (a2 : Int) (r : Int) (w : World) (h : bits_Field.f a0 a1 a2 = some r) :
    Calls Try.prog 18 #[.int .u64 a0, .int .i64 a1, .int .i64 a2] w fun e w' => e = .returned (.int .u64 r) ∧ Drawn0 w w' := by
  have hk := bits_Field.spec a0 a1 a2 r h
  exact bits_Field0.calls a0 a1 a2 r w hk

/-! ### postbaglaw01_lives0: function 13 -/
def postbaglaw01_lives0.f  : Option (Bool) := (bits_Field.f 240 4 4).bind fun t109 => (if t109 = 15 then ((bits_Sign.f 128 8).bind fun t110 => (if t110 = 18446744073709551488 then ((bits_High.f 4294967296 4294967296 false false).bind fun t111 => (some (t111 == 1))) else (some false))) else (some false))
set_option maxHeartbeats 8000000 in
set_option maxRecDepth 100000 in
theorem postbaglaw01_lives0.calls  (r : Bool) (w : World) (h : postbaglaw01_lives0.f  = some r) :
    Calls Try.prog 13 #[] w fun e w' => e = .returned (.bool r) ∧ Below w.heap.size w w' := by
  have HB := Aside0.mk (Below.refl w.heap.size w)
  have H : ((bits_Field.f 240 4 4).bind fun t109 => (if t109 = 15 then ((bits_Sign.f 128 8).bind fun t110 => (if t110 = 18446744073709551488 then ((bits_High.f 4294967296 4294967296 false false).bind fun t111 => (some (t111 == 1))) else (some false))) else (some false))) = some r := h
  clear h
  replace H := Option.bind_eq_some_iff.mp H
  obtain ⟨t109, A10, H⟩ := H
  replace H : (if t109 = 15 then ((bits_Sign.f 128 8).bind fun t110 => (if t110 = 18446744073709551488 then ((bits_High.f 4294967296 4294967296 false false).bind fun t111 => (some (t111 == 1))) else (some false))) else (some false)) = some r := H
  have A1 := Aside0.mk A10
  clear A10
  by_cases c2 : t109 = 15
  · rw [if_pos c2] at H
    have c2b0 : (t109 == 15) = true := beq_iff_eq.mpr c2
    have c2b1 : (t109 != 15) = false := bne_eq_false_iff_eq.mpr c2
    clear c2
    replace H := Option.bind_eq_some_iff.mp H
    obtain ⟨t110, A30, H⟩ := H
    replace H : (if t110 = 18446744073709551488 then ((bits_High.f 4294967296 4294967296 false false).bind fun t111 => (some (t111 == 1))) else (some false)) = some r := H
    have A3 := Aside0.mk A30
    clear A30
    by_cases c4 : t110 = 18446744073709551488
    · rw [if_pos c4] at H
      have c4b0 : (t110 == 18446744073709551488) = true := beq_iff_eq.mpr c4
      have c4b1 : (t110 != 18446744073709551488) = false := bne_eq_false_iff_eq.mpr c4
      clear c4
      replace H := Option.bind_eq_some_iff.mp H
      obtain ⟨t111, A50, H⟩ := H
      replace H : (some (t111 == 1)) = some r := H
      have A5 := Aside0.mk A50
      clear A50
      obtain rfl := Option.some.inj H
      go_enter Try.func13, Try.ntmps13
      go_wp2_with (first | ((with_reducible refine gate_callee (f := 18) rfl ?_); refine goesL_ (some 1) rfl rfl Try.func18 (by kernel_rfl) rfl #[.int .u64 240, .int .i64 4, .int .i64 4] rfl (by (try simp only [List.map_toArray, List.map_cons, List.map_nil]); first | done | rfl | (simp only [List.length_drop, List.length_take]; rfl)) ?_; (with_reducible refine (bits_Field.calls 240 4 4 t109 _ A1.out).mono ?_); rintro e w' ⟨rfl, ⟨nd, rfl⟩⟩; refine ⟨_, rfl, ?_⟩) | (go_at_call 14; (with_reducible refine (bits_Sign.calls 128 8 t110 _ A3.out).mono ?_); rintro e w' ⟨rfl, ⟨nd, rfl⟩⟩) | (go_at_call 11; (with_reducible refine (bits_High.calls 4294967296 4294967296 false false t111 _ A5.out).mono ?_); rintro e w6 ⟨rfl, hb⟩; have n0_ := Aside0.mk (below_step (by repeat (first | (with_reducible first | exact HB.out | apply below_alloc | apply pw_below_drewN | apply below_drew1) | exact HB.out)) hb); clear HB; have HB := n0_; clear n0_; (try clear hb); (try clear hb2); (try clear hk); (try clear hi)))
      go_ret
      exact ⟨by first | rfl | (simp [errW_none, errW_some] <;> rfl) | (simp [*, errW_none, errW_some] <;> rfl), by repeat (first | (with_reducible first | exact HB.out | apply below_alloc | apply pw_below_drewN | apply below_drew1) | exact HB.out)⟩
    · rw [if_neg c4] at H
      have c4b0 : (t110 == 18446744073709551488) = false := beq_eq_false_iff_ne.mpr c4
      have c4b1 : (t110 != 18446744073709551488) = true := bne_iff_ne.mpr c4
      obtain rfl := Option.some.inj H
      go_enter Try.func13, Try.ntmps13
      go_wp2_with (first | ((with_reducible refine gate_callee (f := 18) rfl ?_); refine goesL_ (some 1) rfl rfl Try.func18 (by kernel_rfl) rfl #[.int .u64 240, .int .i64 4, .int .i64 4] rfl (by (try simp only [List.map_toArray, List.map_cons, List.map_nil]); first | done | rfl | (simp only [List.length_drop, List.length_take]; rfl)) ?_; (with_reducible refine (bits_Field.calls 240 4 4 t109 _ A1.out).mono ?_); rintro e w' ⟨rfl, ⟨nd, rfl⟩⟩; refine ⟨_, rfl, ?_⟩) | (go_at_call 14; (with_reducible refine (bits_Sign.calls 128 8 t110 _ A3.out).mono ?_); rintro e w' ⟨rfl, ⟨nd, rfl⟩⟩))
      go_ret
      exact ⟨by first | rfl | (simp [errW_none, errW_some] <;> rfl) | (simp [*, errW_none, errW_some] <;> rfl), by repeat (first | (with_reducible first | exact HB.out | apply below_alloc | apply pw_below_drewN | apply below_drew1) | exact HB.out)⟩
  · rw [if_neg c2] at H
    have c2b0 : (t109 == 15) = false := beq_eq_false_iff_ne.mpr c2
    have c2b1 : (t109 != 15) = true := bne_iff_ne.mpr c2
    obtain rfl := Option.some.inj H
    go_enter Try.func13, Try.ntmps13
    go_wp2_with (first | ((with_reducible refine gate_callee (f := 18) rfl ?_); refine goesL_ (some 1) rfl rfl Try.func18 (by kernel_rfl) rfl #[.int .u64 240, .int .i64 4, .int .i64 4] rfl (by (try simp only [List.map_toArray, List.map_cons, List.map_nil]); first | done | rfl | (simp only [List.length_drop, List.length_take]; rfl)) ?_; (with_reducible refine (bits_Field.calls 240 4 4 t109 _ A1.out).mono ?_); rintro e w' ⟨rfl, ⟨nd, rfl⟩⟩; refine ⟨_, rfl, ?_⟩))
    go_ret
    exact ⟨by first | rfl | (simp [errW_none, errW_some] <;> rfl) | (simp [*, errW_none, errW_some] <;> rfl), by repeat (first | (with_reducible first | exact HB.out | apply below_alloc | apply pw_below_drewN | apply below_drew1) | exact HB.out)⟩
def postbaglaw01_lives.f : Option (Bool) := some true
theorem postbaglaw01_lives.spec (r : Bool) (h : postbaglaw01_lives.f = some r) : postbaglaw01_lives0.f = some r := by
  rw [← h]
  unfold postbaglaw01_lives.f postbaglaw01_lives0.f
  rw [bits_Field.eq (by decide), bits_Sign.eq (by decide), bits_High.f, if_pos (by decide)]
  simp only [Option.bind_some]
  rw [if_pos (by decide), if_pos (by decide)]
  simp [hiOf, u64w]
theorem postbaglaw01_lives.calls  (r : Bool) (w : World) (h : postbaglaw01_lives.f  = some r) :
    Calls Try.prog 13 #[] w fun e w' => e = .returned (.bool r) ∧ Below w.heap.size w w' := by
  have hk := postbaglaw01_lives.spec  r h
  exact postbaglaw01_lives0.calls r w hk

/-! ### postbaglaw01_BitsHighs: function 3 -/
def postbaglaw01_BitsHighs.f (a0 : Int) (a1 : Int) (a2 : Bool) (a3 : Bool) : Option (Bool) := (bits_High.f a0 a1 a2 a3).bind fun t112 => ((postbagref01_High.f a0 a1 a2 a3).bind fun t113 => (if t112 = t113 then ((postbaglaw01_lives.f).bind fun t114 => (some t114)) else (some false)))
set_option maxHeartbeats 8000000 in
set_option maxRecDepth 100000 in
theorem postbaglaw01_BitsHighs.calls (a0 : Int) (a1 : Int) (a2 : Bool) (a3 : Bool) (r : Bool) (w : World) (h : postbaglaw01_BitsHighs.f a0 a1 a2 a3 = some r) :
    Calls Try.prog 3 #[.int .u64 a0, .int .u64 a1, .bool a2, .bool a3] w fun e w' => e = .returned (.bool r) ∧ Below w.heap.size w w' := by
  have HB := Aside0.mk (Below.refl w.heap.size w)
  have H : ((bits_High.f a0 a1 a2 a3).bind fun t112 => ((postbagref01_High.f a0 a1 a2 a3).bind fun t113 => (if t112 = t113 then ((postbaglaw01_lives.f).bind fun t114 => (some t114)) else (some false)))) = some r := h
  clear h
  replace H := Option.bind_eq_some_iff.mp H
  obtain ⟨t112, A50, H⟩ := H
  replace H : ((postbagref01_High.f a0 a1 a2 a3).bind fun t113 => (if t112 = t113 then ((postbaglaw01_lives.f).bind fun t114 => (some t114)) else (some false))) = some r := H
  have A5 := Aside0.mk A50
  clear A50
  replace H := Option.bind_eq_some_iff.mp H
  obtain ⟨t113, A60, H⟩ := H
  replace H : (if t112 = t113 then ((postbaglaw01_lives.f).bind fun t114 => (some t114)) else (some false)) = some r := H
  have A6 := Aside0.mk A60
  clear A60
  by_cases c7 : t112 = t113
  · rw [if_pos c7] at H
    have c7b0 : (t112 == t113) = true := beq_iff_eq.mpr c7
    have c7b1 : (t112 != t113) = false := bne_eq_false_iff_eq.mpr c7
    clear c7
    replace H := Option.bind_eq_some_iff.mp H
    obtain ⟨t114, A80, H⟩ := H
    replace H : (some t114) = some r := H
    have A8 := Aside0.mk A80
    clear A80
    obtain rfl := Option.some.inj H
    go_enter Try.func3, Try.ntmps3
    go_wp2_with (first | ((with_reducible refine gate_callee (f := 11) rfl ?_); refine goesL_ (some 13) rfl rfl Try.func11 (by kernel_rfl) rfl #[.int .u64 a0, .int .u64 a1, .bool a2, .bool a3] rfl (by (try simp only [List.map_toArray, List.map_cons, List.map_nil]); first | done | rfl | (simp only [List.length_drop, List.length_take]; rfl)) ?_; (with_reducible refine (bits_High.calls a0 a1 a2 a3 t112 _ A5.out).mono ?_); rintro e w9 ⟨rfl, hb⟩; refine ⟨_, rfl, ?_⟩; have n0_ := Aside0.mk (below_step (by repeat (first | (with_reducible first | exact HB.out | apply below_alloc | apply pw_below_drewN | apply below_drew1) | exact HB.out)) hb); clear HB; have HB := n0_; clear n0_; (try clear hb); (try clear hb2); (try clear hk); (try clear hi)) | ((with_reducible refine gate_callee (f := 12) rfl ?_); refine goesL_ (some 18) rfl rfl Try.func12 (by kernel_rfl) rfl #[.int .u64 a0, .int .u64 a1, .bool a2, .bool a3] rfl (by (try simp only [List.map_toArray, List.map_cons, List.map_nil]); first | done | rfl | (simp only [List.length_drop, List.length_take]; rfl)) ?_; (with_reducible refine (postbagref01_High.calls a0 a1 a2 a3 t113 _ A6.out).mono ?_); rintro e w' ⟨rfl, ⟨nd, rfl⟩⟩; refine ⟨_, rfl, ?_⟩) | (go_at_call 13; (with_reducible refine (postbaglaw01_lives.calls  t114 _ A8.out).mono ?_); rintro e w10 ⟨rfl, hb⟩; have n0_ := Aside0.mk (below_step (by repeat (first | (with_reducible first | exact HB.out | apply below_alloc | apply pw_below_drewN | apply below_drew1) | exact HB.out)) hb); clear HB; have HB := n0_; clear n0_; (try clear hb); (try clear hb2); (try clear hk); (try clear hi)))
    go_ret
    exact ⟨by first | rfl | (simp [errW_none, errW_some] <;> rfl) | (simp [*, errW_none, errW_some] <;> rfl), by repeat (first | (with_reducible first | exact HB.out | apply below_alloc | apply pw_below_drewN | apply below_drew1) | exact HB.out)⟩
  · rw [if_neg c7] at H
    have c7b0 : (t112 == t113) = false := beq_eq_false_iff_ne.mpr c7
    have c7b1 : (t112 != t113) = true := bne_iff_ne.mpr c7
    obtain rfl := Option.some.inj H
    go_enter Try.func3, Try.ntmps3
    go_wp2_with (first | ((with_reducible refine gate_callee (f := 11) rfl ?_); refine goesL_ (some 13) rfl rfl Try.func11 (by kernel_rfl) rfl #[.int .u64 a0, .int .u64 a1, .bool a2, .bool a3] rfl (by (try simp only [List.map_toArray, List.map_cons, List.map_nil]); first | done | rfl | (simp only [List.length_drop, List.length_take]; rfl)) ?_; (with_reducible refine (bits_High.calls a0 a1 a2 a3 t112 _ A5.out).mono ?_); rintro e w11 ⟨rfl, hb⟩; refine ⟨_, rfl, ?_⟩; have n0_ := Aside0.mk (below_step (by repeat (first | (with_reducible first | exact HB.out | apply below_alloc | apply pw_below_drewN | apply below_drew1) | exact HB.out)) hb); clear HB; have HB := n0_; clear n0_; (try clear hb); (try clear hb2); (try clear hk); (try clear hi)) | ((with_reducible refine gate_callee (f := 12) rfl ?_); refine goesL_ (some 18) rfl rfl Try.func12 (by kernel_rfl) rfl #[.int .u64 a0, .int .u64 a1, .bool a2, .bool a3] rfl (by (try simp only [List.map_toArray, List.map_cons, List.map_nil]); first | done | rfl | (simp only [List.length_drop, List.length_take]; rfl)) ?_; (with_reducible refine (postbagref01_High.calls a0 a1 a2 a3 t113 _ A6.out).mono ?_); rintro e w' ⟨rfl, ⟨nd, rfl⟩⟩; refine ⟨_, rfl, ?_⟩))
    go_ret
    exact ⟨by first | rfl | (simp [errW_none, errW_some] <;> rfl) | (simp [*, errW_none, errW_some] <;> rfl), by repeat (first | (with_reducible first | exact HB.out | apply below_alloc | apply pw_below_drewN | apply below_drew1) | exact HB.out)⟩

/-- THE ONE PURE STATEMENT of postbaglaw01_BitsHighs: yours. -/
def postbaglaw01_BitsHighs.Pure : Prop := ∀ (a0 : Int) (a1 : Int) (a2 : Bool) (a3 : Bool), (Lit.int .u64 a0).wf = true → (Lit.int .u64 a1).wf = true → postbaglaw01_BitsHighs.f a0 a1 a2 a3 = some true
theorem postbaglaw01_BitsHighs.walk (P : postbaglaw01_BitsHighs.Pure) (a0 : Int) (a1 : Int) (a2 : Bool) (a3 : Bool) (w : World) (w0 : (Lit.int .u64 a0).wf = true) (w1 : (Lit.int .u64 a1).wf = true) :
    Calls Try.prog 3 #[.int .u64 a0, .int .u64 a1, .bool a2, .bool a3] w fun e w' => e = .returned (.bool true) ∧ Below w.heap.size w w' := by
  have h := P a0 a1 a2 a3 w0 w1
  refine (postbaglaw01_BitsHighs.calls a0 a1 a2 a3 true w h).mono ?_
  rintro e w' ⟨rfl, hd⟩
  exact ⟨rfl, hd⟩

/-! ### postbaglaw01_BitsHalves: function 4 -/
def postbaglaw01_BitsHalves.j0 : Nat → Int → Bool → Option (Bool)
  | 0, _, _ => none
  | k + 1, x0, x31 => if x31 = true then (some false) else ((bits_High.f x0 1 false false).bind fun t121 => (if t121 = 0 then ((bits_High.f x0 4294967296 false false).bind fun t122 => (if t122 = (x0 / 4294967296) then ((postbaglaw01_lives.f).bind fun t123 => (some t123)) else (some false))) else (some false)))
def postbaglaw01_BitsHalves.f (k : Nat) (a0 : Int) (a1 : Int) : Option (Bool) := (bits_High.f a0 a1 false false).bind fun t115 => ((bits_High.f a1 a0 false false).bind fun t116 => (if t115 = t116 then ((bits_High.f a0 a1 true true).bind fun t117 => ((bits_High.f a1 a0 true true).bind fun t118 => (if t117 = t118 then ((bits_High.f a0 a1 true false).bind fun t119 => ((bits_High.f a1 a0 false true).bind fun t120 => (postbaglaw01_BitsHalves.j0 k a0 (t119 != t120)))) else (postbaglaw01_BitsHalves.j0 k a0 true)))) else (postbaglaw01_BitsHalves.j0 k a0 true)))
theorem postbaglaw01_BitsHalves.mono_l : ∀ k, (∀ y0 y1, LeO (postbaglaw01_BitsHalves.j0 k y0 y1) (postbaglaw01_BitsHalves.j0 (k + 1) y0 y1))
  | 0 => fun _ _ r h => by simp [postbaglaw01_BitsHalves.j0] at h
  | k + 1 => by
    have ih0 := postbaglaw01_BitsHalves.mono_l k
    · intro y0 y1
      unfold postbaglaw01_BitsHalves.j0
      repeat' first
      | (with_reducible exact ih0 _ _)
      | (with_reducible exact LeO.refl _)
      | (with_reducible exact LeO.none _)
      | (with_reducible refine LeO.ite ?_ ?_)
      | (with_reducible refine LeO.bind ?_ (fun _ => ?_))
      | exact ih0 _ _
      | exact LeO.none _
      | refine LeO.ite ?_ ?_
      | refine LeO.bind ?_ (fun _ => ?_)
theorem postbaglaw01_BitsHalves.mono : ∀ a0 a1 k, LeO (postbaglaw01_BitsHalves.f k a0 a1) (postbaglaw01_BitsHalves.f (k + 1) a0 a1) := by
  intro a0 a1 k
  have ih0 := postbaglaw01_BitsHalves.mono_l k
  unfold postbaglaw01_BitsHalves.f
  repeat' first
      | (with_reducible exact ih0 _ _)
      | (with_reducible exact LeO.refl _)
      | (with_reducible exact LeO.none _)
      | (with_reducible refine LeO.ite ?_ ?_)
      | (with_reducible refine LeO.bind ?_ (fun _ => ?_))
      | exact ih0 _ _
      | exact LeO.none _
      | refine LeO.ite ?_ ?_
      | refine LeO.bind ?_ (fun _ => ?_)
set_option maxHeartbeats 8000000 in
set_option maxRecDepth 100000 in
theorem postbaglaw01_BitsHalves.calls (k : Nat) (a0 : Int) (a1 : Int) (r : Bool) (w : World) (h : postbaglaw01_BitsHalves.f k a0 a1 = some r) :
    Calls Try.prog 4 #[.int .u64 a0, .int .u64 a1] w fun e w' => e = .returned (.bool r) ∧ Below w.heap.size w w' := by
  have HB := Aside0.mk (Below.refl w.heap.size w)
  have H : ((bits_High.f a0 a1 false false).bind fun t115 => ((bits_High.f a1 a0 false false).bind fun t116 => (if t115 = t116 then ((bits_High.f a0 a1 true true).bind fun t117 => ((bits_High.f a1 a0 true true).bind fun t118 => (if t117 = t118 then ((bits_High.f a0 a1 true false).bind fun t119 => ((bits_High.f a1 a0 false true).bind fun t120 => (postbaglaw01_BitsHalves.j0 k a0 (t119 != t120)))) else (postbaglaw01_BitsHalves.j0 k a0 true)))) else (postbaglaw01_BitsHalves.j0 k a0 true)))) = some r := h
  clear h
  replace H := Option.bind_eq_some_iff.mp H
  obtain ⟨t115, A30, H⟩ := H
  replace H : ((bits_High.f a1 a0 false false).bind fun t116 => (if t115 = t116 then ((bits_High.f a0 a1 true true).bind fun t117 => ((bits_High.f a1 a0 true true).bind fun t118 => (if t117 = t118 then ((bits_High.f a0 a1 true false).bind fun t119 => ((bits_High.f a1 a0 false true).bind fun t120 => (postbaglaw01_BitsHalves.j0 k a0 (t119 != t120)))) else (postbaglaw01_BitsHalves.j0 k a0 true)))) else (postbaglaw01_BitsHalves.j0 k a0 true))) = some r := H
  have A3 := Aside0.mk A30
  clear A30
  have HC4 := Aside0.mk H
  clear H
  go_enter Try.func4, Try.ntmps4
  go_upto_region 2 with (first | ((with_reducible refine gate_callee (f := 11) rfl ?_); refine goesL_ (some 8) rfl rfl Try.func11 (by kernel_rfl) rfl #[.int .u64 a0, .int .u64 a1, .bool false, .bool false] rfl (by (try simp only [List.map_toArray, List.map_cons, List.map_nil]); first | done | rfl | (simp only [List.length_drop, List.length_take]; rfl)) ?_; (with_reducible refine (bits_High.calls a0 a1 false false t115 _ A3.out).mono ?_); rintro e w5 ⟨rfl, hb⟩; refine ⟨_, rfl, ?_⟩; have n0_ := Aside0.mk (below_step (by repeat (first | (with_reducible first | exact HB.out | apply below_alloc | apply pw_below_drewN | apply below_drew1) | exact HB.out)) hb); clear HB; have HB := n0_; clear n0_; (try clear hb); (try clear hb2); (try clear hk); (try clear hi)))
  (try simp only [Act.put, List.setIfInBounds_toArray, List.set_cons_zero, List.set_cons_succ])
  go_cut [31] (fun v31 wc => ∃ (kq : Nat) (x31_3 : Bool), v31 = .bool x31_3 ∧ Aside0 (postbaglaw01_BitsHalves.j0 kq a0 x31_3 = some r) ∧ Aside0 (kq ≤ k) ∧ Aside0 (Below w.heap.size w wc))
  case first =>
    have H := HC4.out
    clear HC4
    replace H := Option.bind_eq_some_iff.mp H
    obtain ⟨t116, A60, H⟩ := H
    replace H : (if t115 = t116 then ((bits_High.f a0 a1 true true).bind fun t117 => ((bits_High.f a1 a0 true true).bind fun t118 => (if t117 = t118 then ((bits_High.f a0 a1 true false).bind fun t119 => ((bits_High.f a1 a0 false true).bind fun t120 => (postbaglaw01_BitsHalves.j0 k a0 (t119 != t120)))) else (postbaglaw01_BitsHalves.j0 k a0 true)))) else (postbaglaw01_BitsHalves.j0 k a0 true)) = some r := H
    have A6 := Aside0.mk A60
    clear A60
    by_cases c7 : t115 = t116
    · rw [if_pos c7] at H
      have c7b0 : (t115 == t116) = true := beq_iff_eq.mpr c7
      have c7b1 : (t115 != t116) = false := bne_eq_false_iff_eq.mpr c7
      clear c7
      (first | rw [c7b0] | (simp only [i64_w, i32_w]; rw [c7b0]) | skip)
      replace H := Option.bind_eq_some_iff.mp H
      obtain ⟨t117, A80, H⟩ := H
      replace H : ((bits_High.f a1 a0 true true).bind fun t118 => (if t117 = t118 then ((bits_High.f a0 a1 true false).bind fun t119 => ((bits_High.f a1 a0 false true).bind fun t120 => (postbaglaw01_BitsHalves.j0 k a0 (t119 != t120)))) else (postbaglaw01_BitsHalves.j0 k a0 true))) = some r := H
      have A8 := Aside0.mk A80
      clear A80
      replace H := Option.bind_eq_some_iff.mp H
      obtain ⟨t118, A90, H⟩ := H
      replace H : (if t117 = t118 then ((bits_High.f a0 a1 true false).bind fun t119 => ((bits_High.f a1 a0 false true).bind fun t120 => (postbaglaw01_BitsHalves.j0 k a0 (t119 != t120)))) else (postbaglaw01_BitsHalves.j0 k a0 true)) = some r := H
      have A9 := Aside0.mk A90
      clear A90
      by_cases c10 : t117 = t118
      · rw [if_pos c10] at H
        have c10b0 : (t117 == t118) = true := beq_iff_eq.mpr c10
        have c10b1 : (t117 != t118) = false := bne_eq_false_iff_eq.mpr c10
        clear c10
        replace H := Option.bind_eq_some_iff.mp H
        obtain ⟨t119, A110, H⟩ := H
        replace H : ((bits_High.f a1 a0 false true).bind fun t120 => (postbaglaw01_BitsHalves.j0 k a0 (t119 != t120))) = some r := H
        have A11 := Aside0.mk A110
        clear A110
        replace H := Option.bind_eq_some_iff.mp H
        obtain ⟨t120, A120, H⟩ := H
        replace H : (postbaglaw01_BitsHalves.j0 k a0 (t119 != t120)) = some r := H
        have A12 := Aside0.mk A120
        clear A120
        have H' := Aside0.mk H
        clear H
        go_wp2_with (first | ((with_reducible refine gate_callee (f := 11) rfl ?_); refine goesL_ (some 12) rfl rfl Try.func11 (by kernel_rfl) rfl #[.int .u64 a1, .int .u64 a0, .bool false, .bool false] rfl (by (try simp only [List.map_toArray, List.map_cons, List.map_nil]); first | done | rfl | (simp only [List.length_drop, List.length_take]; rfl)) ?_; (with_reducible refine (bits_High.calls a1 a0 false false t116 _ A6.out).mono ?_); rintro e w13 ⟨rfl, hb⟩; refine ⟨_, rfl, ?_⟩; have n0_ := Aside0.mk (below_step (by repeat (first | (with_reducible first | exact HB.out | apply below_alloc | apply pw_below_drewN | apply below_drew1) | exact HB.out)) hb); clear HB; have HB := n0_; clear n0_; (try clear hb); (try clear hb2); (try clear hk); (try clear hi)) | (go_at_call 11; (with_reducible refine (bits_High.calls a0 a1 true true t117 _ A8.out).mono ?_); rintro e w14 ⟨rfl, hb⟩; have n0_ := Aside0.mk (below_step (by repeat (first | (with_reducible first | exact HB.out | apply below_alloc | apply pw_below_drewN | apply below_drew1) | exact HB.out)) hb); clear HB; have HB := n0_; clear n0_; (try clear hb); (try clear hb2); (try clear hk); (try clear hi)) | (go_at_call 11; (with_reducible refine (bits_High.calls a1 a0 true true t118 _ A9.out).mono ?_); rintro e w15 ⟨rfl, hb⟩; have n0_ := Aside0.mk (below_step (by repeat (first | (with_reducible first | exact HB.out | apply below_alloc | apply pw_below_drewN | apply below_drew1) | exact HB.out)) hb); clear HB; have HB := n0_; clear n0_; (try clear hb); (try clear hb2); (try clear hk); (try clear hi)) | (go_at_call 11; (with_reducible refine (bits_High.calls a0 a1 true false t119 _ A11.out).mono ?_); rintro e w16 ⟨rfl, hb⟩; have n0_ := Aside0.mk (below_step (by repeat (first | (with_reducible first | exact HB.out | apply below_alloc | apply pw_below_drewN | apply below_drew1) | exact HB.out)) hb); clear HB; have HB := n0_; clear n0_; (try clear hb); (try clear hb2); (try clear hk); (try clear hi)) | (go_at_call 11; (with_reducible refine (bits_High.calls a1 a0 false true t120 _ A12.out).mono ?_); rintro e w17 ⟨rfl, hb⟩; have n0_ := Aside0.mk (below_step (by repeat (first | (with_reducible first | exact HB.out | apply below_alloc | apply pw_below_drewN | apply below_drew1) | exact HB.out)) hb); clear HB; have HB := n0_; clear n0_; (try clear hb); (try clear hb2); (try clear hk); (try clear hi)))
        go_meet
        case rel => exact ⟨_, ((t119 != t120)), (by first | rfl | (simp; done) | (simp [*]; done)), H', ⟨by first | omega | exact Nat.le_refl _⟩, ⟨by repeat (first | (with_reducible first | exact HB.out | apply below_alloc | apply pw_below_drewN | apply below_drew1) | exact HB.out)⟩⟩
      · rw [if_neg c10] at H
        have c10b0 : (t117 == t118) = false := beq_eq_false_iff_ne.mpr c10
        have c10b1 : (t117 != t118) = true := bne_iff_ne.mpr c10
        have H' := Aside0.mk H
        clear H
        go_wp2_with (first | ((with_reducible refine gate_callee (f := 11) rfl ?_); refine goesL_ (some 12) rfl rfl Try.func11 (by kernel_rfl) rfl #[.int .u64 a1, .int .u64 a0, .bool false, .bool false] rfl (by (try simp only [List.map_toArray, List.map_cons, List.map_nil]); first | done | rfl | (simp only [List.length_drop, List.length_take]; rfl)) ?_; (with_reducible refine (bits_High.calls a1 a0 false false t116 _ A6.out).mono ?_); rintro e w18 ⟨rfl, hb⟩; refine ⟨_, rfl, ?_⟩; have n0_ := Aside0.mk (below_step (by repeat (first | (with_reducible first | exact HB.out | apply below_alloc | apply pw_below_drewN | apply below_drew1) | exact HB.out)) hb); clear HB; have HB := n0_; clear n0_; (try clear hb); (try clear hb2); (try clear hk); (try clear hi)) | (go_at_call 11; (with_reducible refine (bits_High.calls a0 a1 true true t117 _ A8.out).mono ?_); rintro e w19 ⟨rfl, hb⟩; have n0_ := Aside0.mk (below_step (by repeat (first | (with_reducible first | exact HB.out | apply below_alloc | apply pw_below_drewN | apply below_drew1) | exact HB.out)) hb); clear HB; have HB := n0_; clear n0_; (try clear hb); (try clear hb2); (try clear hk); (try clear hi)) | (go_at_call 11; (with_reducible refine (bits_High.calls a1 a0 true true t118 _ A9.out).mono ?_); rintro e w20 ⟨rfl, hb⟩; have n0_ := Aside0.mk (below_step (by repeat (first | (with_reducible first | exact HB.out | apply below_alloc | apply pw_below_drewN | apply below_drew1) | exact HB.out)) hb); clear HB; have HB := n0_; clear n0_; (try clear hb); (try clear hb2); (try clear hk); (try clear hi)))
        go_meet
        case rel => exact ⟨_, (true), (by first | rfl | (simp; done) | (simp [*]; done)), H', ⟨by first | omega | exact Nat.le_refl _⟩, ⟨by repeat (first | (with_reducible first | exact HB.out | apply below_alloc | apply pw_below_drewN | apply below_drew1) | exact HB.out)⟩⟩
    · rw [if_neg c7] at H
      have c7b0 : (t115 == t116) = false := beq_eq_false_iff_ne.mpr c7
      have c7b1 : (t115 != t116) = true := bne_iff_ne.mpr c7
      (first | rw [c7b0] | (simp only [i64_w, i32_w]; rw [c7b0]) | skip)
      have H' := Aside0.mk H
      clear H
      go_wp2_with (first | ((with_reducible refine gate_callee (f := 11) rfl ?_); refine goesL_ (some 12) rfl rfl Try.func11 (by kernel_rfl) rfl #[.int .u64 a1, .int .u64 a0, .bool false, .bool false] rfl (by (try simp only [List.map_toArray, List.map_cons, List.map_nil]); first | done | rfl | (simp only [List.length_drop, List.length_take]; rfl)) ?_; (with_reducible refine (bits_High.calls a1 a0 false false t116 _ A6.out).mono ?_); rintro e w21 ⟨rfl, hb⟩; refine ⟨_, rfl, ?_⟩; have n0_ := Aside0.mk (below_step (by repeat (first | (with_reducible first | exact HB.out | apply below_alloc | apply pw_below_drewN | apply below_drew1) | exact HB.out)) hb); clear HB; have HB := n0_; clear n0_; (try clear hb); (try clear hb2); (try clear hk); (try clear hi)))
      go_meet
      case rel => exact ⟨_, (true), (by first | rfl | (simp; done) | (simp [*]; done)), H', ⟨by first | omega | exact Nat.le_refl _⟩, ⟨by repeat (first | (with_reducible first | exact HB.out | apply below_alloc | apply pw_below_drewN | apply below_drew1) | exact HB.out)⟩⟩
  case rest =>
    clear HC4
    try clear c1
    try clear p2
    try clear c4
    try clear c7
    try clear c7b0
    try clear c7b1
    try clear c10
    try clear c10b0
    try clear c10b1
    try clear c11
    obtain ⟨kq, x31_3, rfl, HA, HJ3, HB⟩ := hcut
    cases kq with
    | zero => exact absurd HA.out (by simp [postbaglaw01_BitsHalves.j0])
    | succ kj3 =>
      have H := HA.out
      clear HA
      simp only [postbaglaw01_BitsHalves.j0] at H
      by_cases c22 : x31_3 = true
      · subst c22
        have H1 : (some false) = some r := by rw [if_pos rfl] at H; exact H
        clear H
        have H := H1
        clear H1
        obtain rfl := Option.some.inj H
        go_wp2
        go_ret
        exact ⟨by first | rfl | (simp [errW_none, errW_some] <;> rfl) | (simp [*, errW_none, errW_some] <;> rfl), by repeat (first | (with_reducible first | exact HB.out | apply below_alloc | apply pw_below_drewN | apply below_drew1) | exact HB.out)⟩
      · replace c22 := Bool.eq_false_iff.mpr c22
        subst c22
        have H1 : ((bits_High.f a0 1 false false).bind fun t121 => (if t121 = 0 then ((bits_High.f a0 4294967296 false false).bind fun t122 => (if t122 = (a0 / 4294967296) then ((postbaglaw01_lives.f).bind fun t123 => (some t123)) else (some false))) else (some false))) = some r := by rw [if_neg (show ¬ (false = true) by decide)] at H; exact H
        clear H
        have H := H1
        clear H1
        replace H := Option.bind_eq_some_iff.mp H
        obtain ⟨t121, A230, H⟩ := H
        replace H : (if t121 = 0 then ((bits_High.f a0 4294967296 false false).bind fun t122 => (if t122 = (a0 / 4294967296) then ((postbaglaw01_lives.f).bind fun t123 => (some t123)) else (some false))) else (some false)) = some r := H
        have A23 := Aside0.mk A230
        clear A230
        by_cases c24 : t121 = 0
        · rw [if_pos c24] at H
          have c24b0 : (t121 == 0) = true := beq_iff_eq.mpr c24
          have c24b1 : (t121 != 0) = false := bne_eq_false_iff_eq.mpr c24
          clear c24
          replace H := Option.bind_eq_some_iff.mp H
          obtain ⟨t122, A250, H⟩ := H
          replace H : (if t122 = (a0 / 4294967296) then ((postbaglaw01_lives.f).bind fun t123 => (some t123)) else (some false)) = some r := H
          have A25 := Aside0.mk A250
          clear A250
          by_cases c26 : t122 = (a0 / 4294967296)
          · rw [if_pos c26] at H
            have c26b0 : (t122 == (a0 / 4294967296)) = true := beq_iff_eq.mpr c26
            have c26b1 : (t122 != (a0 / 4294967296)) = false := bne_eq_false_iff_eq.mpr c26
            clear c26
            replace H := Option.bind_eq_some_iff.mp H
            obtain ⟨t123, A270, H⟩ := H
            replace H : (some t123) = some r := H
            have A27 := Aside0.mk A270
            clear A270
            obtain rfl := Option.some.inj H
            go_wp2_with (first | ((with_reducible refine gate_callee (f := 11) rfl ?_); refine goesL_ (some 33) rfl rfl Try.func11 (by kernel_rfl) rfl #[.int .u64 a0, .int .u64 1, .bool false, .bool false] rfl (by (try simp only [List.map_toArray, List.map_cons, List.map_nil]); first | done | rfl | (simp only [List.length_drop, List.length_take]; rfl)) ?_; (with_reducible refine (bits_High.calls a0 1 false false t121 _ A23.out).mono ?_); rintro e w28 ⟨rfl, hb⟩; refine ⟨_, rfl, ?_⟩; have n0_ := Aside0.mk (below_step (by repeat (first | (with_reducible first | exact HB.out | apply below_alloc | apply pw_below_drewN | apply below_drew1) | exact HB.out)) hb); clear HB; have HB := n0_; clear n0_; (try clear hb); (try clear hb2); (try clear hk); (try clear hi)) | (go_at_call 11; (with_reducible refine (bits_High.calls a0 4294967296 false false t122 _ A25.out).mono ?_); rintro e w29 ⟨rfl, hb⟩; have n0_ := Aside0.mk (below_step (by repeat (first | (with_reducible first | exact HB.out | apply below_alloc | apply pw_below_drewN | apply below_drew1) | exact HB.out)) hb); clear HB; have HB := n0_; clear n0_; (try clear hb); (try clear hb2); (try clear hk); (try clear hi)) | (go_at_call 13; (with_reducible refine (postbaglaw01_lives.calls  t123 _ A27.out).mono ?_); rintro e w30 ⟨rfl, hb⟩; have n0_ := Aside0.mk (below_step (by repeat (first | (with_reducible first | exact HB.out | apply below_alloc | apply pw_below_drewN | apply below_drew1) | exact HB.out)) hb); clear HB; have HB := n0_; clear n0_; (try clear hb); (try clear hb2); (try clear hk); (try clear hi)))
            go_ret
            exact ⟨by first | rfl | (simp [errW_none, errW_some] <;> rfl) | (simp [*, errW_none, errW_some] <;> rfl), by repeat (first | (with_reducible first | exact HB.out | apply below_alloc | apply pw_below_drewN | apply below_drew1) | exact HB.out)⟩
          · rw [if_neg c26] at H
            have c26b0 : (t122 == (a0 / 4294967296)) = false := beq_eq_false_iff_ne.mpr c26
            have c26b1 : (t122 != (a0 / 4294967296)) = true := bne_iff_ne.mpr c26
            obtain rfl := Option.some.inj H
            go_wp2_with (first | ((with_reducible refine gate_callee (f := 11) rfl ?_); refine goesL_ (some 33) rfl rfl Try.func11 (by kernel_rfl) rfl #[.int .u64 a0, .int .u64 1, .bool false, .bool false] rfl (by (try simp only [List.map_toArray, List.map_cons, List.map_nil]); first | done | rfl | (simp only [List.length_drop, List.length_take]; rfl)) ?_; (with_reducible refine (bits_High.calls a0 1 false false t121 _ A23.out).mono ?_); rintro e w31 ⟨rfl, hb⟩; refine ⟨_, rfl, ?_⟩; have n0_ := Aside0.mk (below_step (by repeat (first | (with_reducible first | exact HB.out | apply below_alloc | apply pw_below_drewN | apply below_drew1) | exact HB.out)) hb); clear HB; have HB := n0_; clear n0_; (try clear hb); (try clear hb2); (try clear hk); (try clear hi)) | (go_at_call 11; (with_reducible refine (bits_High.calls a0 4294967296 false false t122 _ A25.out).mono ?_); rintro e w32 ⟨rfl, hb⟩; have n0_ := Aside0.mk (below_step (by repeat (first | (with_reducible first | exact HB.out | apply below_alloc | apply pw_below_drewN | apply below_drew1) | exact HB.out)) hb); clear HB; have HB := n0_; clear n0_; (try clear hb); (try clear hb2); (try clear hk); (try clear hi)))
            go_ret
            exact ⟨by first | rfl | (simp [errW_none, errW_some] <;> rfl) | (simp [*, errW_none, errW_some] <;> rfl), by repeat (first | (with_reducible first | exact HB.out | apply below_alloc | apply pw_below_drewN | apply below_drew1) | exact HB.out)⟩
        · rw [if_neg c24] at H
          have c24b0 : (t121 == 0) = false := beq_eq_false_iff_ne.mpr c24
          have c24b1 : (t121 != 0) = true := bne_iff_ne.mpr c24
          obtain rfl := Option.some.inj H
          go_wp2_with (first | ((with_reducible refine gate_callee (f := 11) rfl ?_); refine goesL_ (some 33) rfl rfl Try.func11 (by kernel_rfl) rfl #[.int .u64 a0, .int .u64 1, .bool false, .bool false] rfl (by (try simp only [List.map_toArray, List.map_cons, List.map_nil]); first | done | rfl | (simp only [List.length_drop, List.length_take]; rfl)) ?_; (with_reducible refine (bits_High.calls a0 1 false false t121 _ A23.out).mono ?_); rintro e w33 ⟨rfl, hb⟩; refine ⟨_, rfl, ?_⟩; have n0_ := Aside0.mk (below_step (by repeat (first | (with_reducible first | exact HB.out | apply below_alloc | apply pw_below_drewN | apply below_drew1) | exact HB.out)) hb); clear HB; have HB := n0_; clear n0_; (try clear hb); (try clear hb2); (try clear hk); (try clear hi)))
          go_ret
          exact ⟨by first | rfl | (simp [errW_none, errW_some] <;> rfl) | (simp [*, errW_none, errW_some] <;> rfl), by repeat (first | (with_reducible first | exact HB.out | apply below_alloc | apply pw_below_drewN | apply below_drew1) | exact HB.out)⟩

/-- THE ONE PURE STATEMENT of postbaglaw01_BitsHalves: yours. -/
def postbaglaw01_BitsHalves.Pure : Prop := ∀ (a0 : Int) (a1 : Int), (Lit.int .u64 a0).wf = true → (Lit.int .u64 a1).wf = true → ∃ k, postbaglaw01_BitsHalves.f k a0 a1 = some true
theorem postbaglaw01_BitsHalves.walk (P : postbaglaw01_BitsHalves.Pure) (a0 : Int) (a1 : Int) (w : World) (w0 : (Lit.int .u64 a0).wf = true) (w1 : (Lit.int .u64 a1).wf = true) :
    Calls Try.prog 4 #[.int .u64 a0, .int .u64 a1] w fun e w' => e = .returned (.bool true) ∧ Below w.heap.size w w' := by
  obtain ⟨k, h⟩ := P a0 a1 w0 w1
  refine (postbaglaw01_BitsHalves.calls k a0 a1 true w h).mono ?_
  rintro e w' ⟨rfl, hd⟩
  exact ⟨rfl, hd⟩

/-! ### postbagref01_power0: function 28 -/
def postbagref01_power0.l0 : Nat → Int → Int → Int → Option (Int)
  | 0, _, _, _ => none
  | k + 1, x0, x3, x4 => if x4 < x0 then (if x4 < 64 then (postbagref01_power0.l0 k x0 (IntKind.u64.wrap (2 * x3)) (wrap64 (x4 + 1))) else (some x3)) else (some x3)
def postbagref01_power0.f (k : Nat) (a0 : Int) : Option (Int) := postbagref01_power0.l0 k a0 1 0
theorem postbagref01_power0.mono_l : ∀ k, (∀ y0 y1 y2, LeO (postbagref01_power0.l0 k y0 y1 y2) (postbagref01_power0.l0 (k + 1) y0 y1 y2))
  | 0 => fun _ _ _ r h => by simp [postbagref01_power0.l0] at h
  | k + 1 => by
    have ih0 := postbagref01_power0.mono_l k
    · intro y0 y1 y2
      unfold postbagref01_power0.l0
      repeat' first
      | (with_reducible exact ih0 _ _ _)
      | (with_reducible exact LeO.refl _)
      | (with_reducible exact LeO.none _)
      | (with_reducible refine LeO.ite ?_ ?_)
      | (with_reducible refine LeO.bind ?_ (fun _ => ?_))
      | exact ih0 _ _ _
      | exact LeO.none _
      | refine LeO.ite ?_ ?_
      | refine LeO.bind ?_ (fun _ => ?_)
theorem postbagref01_power0.mono : ∀ a0 k, LeO (postbagref01_power0.f k a0) (postbagref01_power0.f (k + 1) a0) := by
  intro a0 k
  have ih0 := postbagref01_power0.mono_l k
  unfold postbagref01_power0.f
  repeat' first
      | (with_reducible exact ih0 _ _ _)
      | (with_reducible exact LeO.refl _)
      | (with_reducible exact LeO.none _)
      | (with_reducible refine LeO.ite ?_ ?_)
      | (with_reducible refine LeO.bind ?_ (fun _ => ?_))
      | exact ih0 _ _ _
      | exact LeO.none _
      | refine LeO.ite ?_ ?_
      | refine LeO.bind ?_ (fun _ => ?_)
set_option maxHeartbeats 8000000 in
set_option maxRecDepth 100000 in
theorem postbagref01_power0.calls (k : Nat) (a0 : Int) (r : Int) (w : World) (h : postbagref01_power0.f k a0 = some r) :
    Calls Try.prog 28 #[.int .i64 a0] w fun e w' => e = .returned (.int .u64 r) ∧ Drawn0 w w' := by
  have H : (postbagref01_power0.l0 k a0 1 0) = some r := h
  clear h
  have H' := Aside0.mk H
  clear H
  go_enter Try.func28, Try.ntmps28
  go_wp2
  go_loopg [3, 4] k (fun kq v3 v4 w' => ∃ (x3_1 : Int) (x4_1 : Int), v3 = .int .u64 x3_1 ∧ v4 = .int .i64 x4_1 ∧ Aside0 (postbagref01_power0.l0 kq a0 x3_1 x4_1 = some r) ∧ Aside0 (kq ≤ k) ∧ Drawn0 w w')
  case atStart => exact ⟨(1), (0), (by first | rfl | (simp; done) | (simp [*]; done)), (by first | rfl | (simp; done) | (simp [*]; done)), H', ⟨Nat.le_refl _⟩, by repeat (first | exact Drawn0.refl _ | apply Drawn0.step)⟩
  case round =>
    clear H'
    obtain ⟨x3_1, x4_1, rfl, rfl, HA, HK1, ⟨m1, rfl⟩⟩ := hrel
    cases gk with
    | zero => exact absurd HA.out (by simp [postbagref01_power0.l0])
    | succ k1 =>
      have H := HA.out
      clear HA
      simp only [postbagref01_power0.l0] at H
      by_cases c2 : x4_1 < a0
      · rw [if_pos c2] at H
        have c2b0 : decide (x4_1 < a0) = true := decide_eq_true c2
        clear c2
        by_cases c3 : x4_1 < 64
        · rw [if_pos c3] at H
          have c3b0 : decide (x4_1 < 64) = true := decide_eq_true c3
          clear c3
          have H' := Aside0.mk H
          clear H
          go_wp2
          go_roundg k1
          case measure => have := HK1.out; omega
          case rel => exact ⟨(IntKind.u64.wrap (2 * x3_1)), (wrap64 (x4_1 + 1)), (by first | rfl | (simp; done) | (simp [*]; done)), (by first | rfl | (simp; done) | (simp [*]; done)), H', ⟨by have := HK1.out; omega⟩, by repeat (first | exact Drawn0.refl _ | apply Drawn0.step)⟩
        · rw [if_neg c3] at H
          have c3b0 : decide (x4_1 < 64) = false := decide_eq_false c3
          clear c3
          obtain rfl := Option.some.inj H
          go_wp2
          go_ret
          exact ⟨by first | rfl | (simp; done) | (simp [*]; done), by repeat (first | exact Drawn0.refl _ | apply Drawn0.step)⟩
      · rw [if_neg c2] at H
        have c2b0 : decide (x4_1 < a0) = false := decide_eq_false c2
        clear c2
        obtain rfl := Option.some.inj H
        go_wp2
        go_ret
        exact ⟨by first | rfl | (simp; done) | (simp [*]; done), by repeat (first | exact Drawn0.refl _ | apply Drawn0.step)⟩
def postbagref01_power.f (a0 : Int) : Option (Int) := some (powOf a0)
theorem postbagref01_power.loop (d : Nat) : ∀ (k : Nat) (n : Int) (i : Nat), i + d = 64 → d < k → (i : Int) ≤ n →
    postbagref01_power0.l0 k n (2 ^ i % 18446744073709551616) i = some (powOf n) := by
  induction d with
  | zero =>
    intro k n i hi hk hn
    obtain ⟨k, rfl⟩ : ∃ m, k = m + 1 := ⟨k - 1, by omega⟩
    obtain rfl : i = 64 := by omega
    simp only [postbagref01_power0.l0, powOf]
    rw [if_neg (show ¬ n < 0 by omega), if_pos (show n ≥ 64 by omega)]
    by_cases h : ((64 : Nat) : Int) < n
    · rw [if_pos h, if_neg (by omega)]; rfl
    · rw [if_neg h]; rfl
  | succ d ih =>
    intro k n i hi hk hn
    obtain ⟨k, rfl⟩ : ∃ m, k = m + 1 := ⟨k - 1, by omega⟩
    simp only [postbagref01_power0.l0]
    by_cases h : (i : Int) < n
    · rw [if_pos h, if_pos (by omega), I64.wrap_eq (by unfold I64; omega), u64w, ← ih k n (i + 1) (by omega) (by omega) (by omega)]
      congr 1
      rw [Int.pow_succ, Int.mul_emod, Int.emod_emod_of_dvd _ (Int.dvd_refl _), ← Int.mul_emod, Int.mul_comm]
    · rw [if_neg h]
      unfold powOf
      rw [if_neg (by omega), if_neg (by omega), show n.toNat = i from by omega, Int.emod_eq_of_lt (Int.le_of_lt (ipos i))]
      exact Int.lt_of_le_of_lt (ipow_le i 63 (by omega)) (by decide)
theorem postbagref01_power.spec (a0 r : Int) (h : postbagref01_power.f a0 = some r) : ∃ k, postbagref01_power0.f k a0 = some r := by
  refine ⟨66, ?_⟩
  rw [← h]
  unfold postbagref01_power.f postbagref01_power0.f
  by_cases h0 : a0 < 0
  · rw [postbagref01_power0.l0, if_neg (by omega), powOf, if_pos h0]
  · exact postbagref01_power.loop 64 66 a0 0 (by omega) (by omega) (by omega)

theorem postbagref01_power.calls (a0 : Int) (r : Int) (w : World) (h : postbagref01_power.f a0 = some r) :
    Calls Try.prog 28 #[.int .i64 a0] w fun e w' => e = .returned (.int .u64 r) ∧ Drawn0 w w' := by
  obtain ⟨k, hk⟩ := postbagref01_power.spec a0 r h
  exact postbagref01_power0.calls k a0 r w hk

/-! ### postbagref01_Sign0: function 15 -/
mutual
def postbagref01_Sign0.j0 : Nat → Int → Int → Bool → Option (Int)
  | 0, _, _, _ => none
  | k + 1, x0, x1, x13 => if x13 = true then (some x0) else (postbagref01_Sign0.l0 k x0 x1 0 0)
def postbagref01_Sign0.l0 : Nat → Int → Int → Int → Int → Option (Int)
  | 0, _, _, _, _ => none
  | k + 1, x0, x1, x5, x6 => if x6 < 64 then ((postbagref01_Bit.f x0 (wrap64 (x1 - 1))).bind fun t124 => (if x6 < x1 then ((postbagref01_Bit.f x0 x6).bind fun t125 => ((postbagref01_power.f x6).bind fun t126 => (postbagref01_Sign0.l0 k x0 x1 (IntKind.u64.wrap (x5 + (IntKind.u64.wrap (t125 * t126)))) (wrap64 (x6 + 1))))) else ((postbagref01_power.f x6).bind fun t127 => (postbagref01_Sign0.l0 k x0 x1 (IntKind.u64.wrap (x5 + (IntKind.u64.wrap (t124 * t127)))) (wrap64 (x6 + 1)))))) else (some x5)
end
def postbagref01_Sign0.f (k : Nat) (a0 : Int) (a1 : Int) : Option (Int) := if a1 < 1 then (postbagref01_Sign0.j0 k a0 a1 true) else (postbagref01_Sign0.j0 k a0 a1 (decide (a1 > 63)))
theorem postbagref01_Sign0.mono_l : ∀ k, (∀ y0 y1 y2, LeO (postbagref01_Sign0.j0 k y0 y1 y2) (postbagref01_Sign0.j0 (k + 1) y0 y1 y2)) ∧ (∀ y0 y1 y2 y3, LeO (postbagref01_Sign0.l0 k y0 y1 y2 y3) (postbagref01_Sign0.l0 (k + 1) y0 y1 y2 y3))
  | 0 => ⟨fun _ _ _ r h => by simp [postbagref01_Sign0.j0] at h, fun _ _ _ _ r h => by simp [postbagref01_Sign0.l0] at h⟩
  | k + 1 => by
    obtain ⟨ih0, ih1⟩ := postbagref01_Sign0.mono_l k
    refine ⟨?_, ?_⟩
    · intro y0 y1 y2
      unfold postbagref01_Sign0.j0
      repeat' first
      | (with_reducible exact ih0 _ _ _)
      | (with_reducible exact ih1 _ _ _ _)
      | (with_reducible exact LeO.refl _)
      | (with_reducible exact LeO.none _)
      | (with_reducible refine LeO.ite ?_ ?_)
      | (with_reducible refine LeO.bind ?_ (fun _ => ?_))
      | exact ih0 _ _ _
      | exact ih1 _ _ _ _
      | exact LeO.none _
      | refine LeO.ite ?_ ?_
      | refine LeO.bind ?_ (fun _ => ?_)
    · intro y0 y1 y2 y3
      unfold postbagref01_Sign0.l0
      repeat' first
      | (with_reducible exact ih0 _ _ _)
      | (with_reducible exact ih1 _ _ _ _)
      | (with_reducible exact LeO.refl _)
      | (with_reducible exact LeO.none _)
      | (with_reducible refine LeO.ite ?_ ?_)
      | (with_reducible refine LeO.bind ?_ (fun _ => ?_))
      | exact ih0 _ _ _
      | exact ih1 _ _ _ _
      | exact LeO.none _
      | refine LeO.ite ?_ ?_
      | refine LeO.bind ?_ (fun _ => ?_)
theorem postbagref01_Sign0.mono : ∀ a0 a1 k, LeO (postbagref01_Sign0.f k a0 a1) (postbagref01_Sign0.f (k + 1) a0 a1) := by
  intro a0 a1 k
  obtain ⟨ih0, ih1⟩ := postbagref01_Sign0.mono_l k
  unfold postbagref01_Sign0.f
  repeat' first
      | (with_reducible exact ih0 _ _ _)
      | (with_reducible exact ih1 _ _ _ _)
      | (with_reducible exact LeO.refl _)
      | (with_reducible exact LeO.none _)
      | (with_reducible refine LeO.ite ?_ ?_)
      | (with_reducible refine LeO.bind ?_ (fun _ => ?_))
      | exact ih0 _ _ _
      | exact ih1 _ _ _ _
      | exact LeO.none _
      | refine LeO.ite ?_ ?_
      | refine LeO.bind ?_ (fun _ => ?_)
set_option maxHeartbeats 8000000 in
set_option maxRecDepth 100000 in
theorem postbagref01_Sign0.calls (k : Nat) (a0 : Int) (a1 : Int) (r : Int) (w : World) (h : postbagref01_Sign0.f k a0 a1 = some r) :
    Calls Try.prog 15 #[.int .u64 a0, .int .i64 a1] w fun e w' => e = .returned (.int .u64 r) ∧ Drawn0 w w' := by
  have H : (if a1 < 1 then (postbagref01_Sign0.j0 k a0 a1 true) else (postbagref01_Sign0.j0 k a0 a1 (decide (a1 > 63)))) = some r := h
  clear h
  have HC3 := Aside0.mk H
  clear H
  go_enter Try.func15, Try.ntmps15
  go_upto_region 1 with (fail)
  go_cut [13] (fun v13 wc => ∃ (kq : Nat) (x13_2 : Bool), v13 = .bool x13_2 ∧ Aside0 (postbagref01_Sign0.j0 kq a0 a1 x13_2 = some r) ∧ Aside0 (kq ≤ k) ∧ Drawn0 w wc)
  case first =>
    have H := HC3.out
    clear HC3
    by_cases c4 : a1 < 1
    · rw [if_pos c4] at H
      have c4b0 : decide (a1 < 1) = true := decide_eq_true c4
      clear c4
      (first | rw [c4b0] | (simp only [i64_w, i32_w]; rw [c4b0]) | skip)
      have H' := Aside0.mk H
      clear H
      go_wp2
      go_meet
      case rel => exact ⟨_, (true), (by first | rfl | (simp; done) | (simp [*]; done)), H', ⟨by first | omega | exact Nat.le_refl _⟩, by repeat (first | exact Drawn0.refl _ | apply Drawn0.step)⟩
    · rw [if_neg c4] at H
      have c4b0 : decide (a1 < 1) = false := decide_eq_false c4
      clear c4
      (first | rw [c4b0] | (simp only [i64_w, i32_w]; rw [c4b0]) | skip)
      have H' := Aside0.mk H
      clear H
      go_wp2
      go_meet
      case rel => exact ⟨_, (decide (a1 > 63)), (by first | rfl | (simp; done) | (simp [*]; done)), H', ⟨by first | omega | exact Nat.le_refl _⟩, by repeat (first | exact Drawn0.refl _ | apply Drawn0.step)⟩
  case rest =>
    clear HC3
    try clear c1
    try clear p2
    try clear c4
    try clear c4b0
    obtain ⟨kq, x13_2, rfl, HA, HJ2, ⟨mc2, rfl⟩⟩ := hcut
    cases kq with
    | zero => exact absurd HA.out (by simp [postbagref01_Sign0.j0])
    | succ kj2 =>
      have H := HA.out
      clear HA
      simp only [postbagref01_Sign0.j0] at H
      by_cases c5 : x13_2 = true
      · subst c5
        have H1 : (some a0) = some r := by rw [if_pos rfl] at H; exact H
        clear H
        have H := H1
        clear H1
        obtain rfl := Option.some.inj H
        go_wp2
        go_ret
        exact ⟨by first | rfl | (simp; done) | (simp [*]; done), by repeat (first | exact Drawn0.refl _ | apply Drawn0.step)⟩
      · replace c5 := Bool.eq_false_iff.mpr c5
        subst c5
        have H1 : (postbagref01_Sign0.l0 kj2 a0 a1 0 0) = some r := by rw [if_neg (show ¬ (false = true) by decide)] at H; exact H
        clear H
        have H := H1
        clear H1
        have H' := Aside0.mk H
        clear H
        go_wp2
        go_loopg [5, 6] kj2 (fun kq v5 v6 w' => ∃ (x5_2 : Int) (x6_2 : Int), v5 = .int .u64 x5_2 ∧ v6 = .int .i64 x6_2 ∧ Aside0 (postbagref01_Sign0.l0 kq a0 a1 x5_2 x6_2 = some r) ∧ Aside0 (kq ≤ kj2) ∧ Drawn0 w w')
        case atStart => exact ⟨(0), (0), (by first | rfl | (simp; done) | (simp [*]; done)), (by first | rfl | (simp; done) | (simp [*]; done)), H', ⟨Nat.le_refl _⟩, by repeat (first | exact Drawn0.refl _ | apply Drawn0.step)⟩
        case round =>
          clear H'
          try clear c1
          try clear c2
          try clear p2
          try clear c4
          try clear c4b0
          try clear c5
          try clear p2
          obtain ⟨x5_2, x6_2, rfl, rfl, HA, HK2, ⟨m2, rfl⟩⟩ := hrel
          cases gk with
          | zero => exact absurd HA.out (by simp [postbagref01_Sign0.l0])
          | succ k2 =>
            have H := HA.out
            clear HA
            simp only [postbagref01_Sign0.l0] at H
            by_cases c6 : x6_2 < 64
            · rw [if_pos c6] at H
              have c6b0 : decide (x6_2 < 64) = true := decide_eq_true c6
              clear c6
              replace H := Option.bind_eq_some_iff.mp H
              obtain ⟨t124, A70, H⟩ := H
              replace H : (if x6_2 < a1 then ((postbagref01_Bit.f a0 x6_2).bind fun t125 => ((postbagref01_power.f x6_2).bind fun t126 => (postbagref01_Sign0.l0 k2 a0 a1 (IntKind.u64.wrap (x5_2 + (IntKind.u64.wrap (t125 * t126)))) (wrap64 (x6_2 + 1))))) else ((postbagref01_power.f x6_2).bind fun t127 => (postbagref01_Sign0.l0 k2 a0 a1 (IntKind.u64.wrap (x5_2 + (IntKind.u64.wrap (t124 * t127)))) (wrap64 (x6_2 + 1))))) = some r := H
              have A7 := Aside0.mk A70
              clear A70
              by_cases c8 : x6_2 < a1
              · rw [if_pos c8] at H
                have c8b0 : decide (x6_2 < a1) = true := decide_eq_true c8
                clear c8
                replace H := Option.bind_eq_some_iff.mp H
                obtain ⟨t125, A90, H⟩ := H
                replace H : ((postbagref01_power.f x6_2).bind fun t126 => (postbagref01_Sign0.l0 k2 a0 a1 (IntKind.u64.wrap (x5_2 + (IntKind.u64.wrap (t125 * t126)))) (wrap64 (x6_2 + 1)))) = some r := H
                have A9 := Aside0.mk A90
                clear A90
                replace H := Option.bind_eq_some_iff.mp H
                obtain ⟨t126, A100, H⟩ := H
                replace H : (postbagref01_Sign0.l0 k2 a0 a1 (IntKind.u64.wrap (x5_2 + (IntKind.u64.wrap (t125 * t126)))) (wrap64 (x6_2 + 1))) = some r := H
                have A10 := Aside0.mk A100
                clear A100
                have H' := Aside0.mk H
                clear H
                go_wp2_with (first | ((with_reducible refine gate_callee (f := 27) rfl ?_); refine goesL_ (some 22) rfl rfl Try.func27 (by kernel_rfl) rfl #[.int .u64 a0, .int .i64 (wrap64 (a1 - 1))] rfl (by (try simp only [List.map_toArray, List.map_cons, List.map_nil]); first | done | rfl | (simp only [List.length_drop, List.length_take]; rfl)) ?_; (with_reducible refine (postbagref01_Bit.calls a0 (wrap64 (a1 - 1)) t124 _ A7.out).mono ?_); rintro e w' ⟨rfl, ⟨nd, rfl⟩⟩; refine ⟨_, rfl, ?_⟩) | ((with_reducible refine gate_callee (f := 27) rfl ?_); refine goesL_ (some 28) rfl rfl Try.func27 (by kernel_rfl) rfl #[.int .u64 a0, .int .i64 x6_2] rfl (by (try simp only [List.map_toArray, List.map_cons, List.map_nil]); first | done | rfl | (simp only [List.length_drop, List.length_take]; rfl)) ?_; (with_reducible refine (postbagref01_Bit.calls a0 x6_2 t125 _ A9.out).mono ?_); rintro e w' ⟨rfl, ⟨nd, rfl⟩⟩; refine ⟨_, rfl, ?_⟩) | ((with_reducible refine gate_callee (f := 28) rfl ?_); refine goesL_ (some 32) rfl rfl Try.func28 (by kernel_rfl) rfl #[.int .i64 x6_2] rfl (by (try simp only [List.map_toArray, List.map_cons, List.map_nil]); first | done | rfl | (simp only [List.length_drop, List.length_take]; rfl)) ?_; (with_reducible refine (postbagref01_power.calls x6_2 t126 _ A10.out).mono ?_); rintro e w' ⟨rfl, ⟨nd, rfl⟩⟩; refine ⟨_, rfl, ?_⟩))
                go_roundg k2
                case measure => have := HJ2.out; have := HK2.out; omega
                case rel => exact ⟨(IntKind.u64.wrap (x5_2 + (IntKind.u64.wrap (t125 * t126)))), (wrap64 (x6_2 + 1)), (by first | rfl | (simp; done) | (simp [*]; done)), (by first | rfl | (simp; done) | (simp [*]; done)), H', ⟨by have := HJ2.out; have := HK2.out; omega⟩, by repeat (first | exact Drawn0.refl _ | apply Drawn0.step)⟩
              · rw [if_neg c8] at H
                have c8b0 : decide (x6_2 < a1) = false := decide_eq_false c8
                clear c8
                replace H := Option.bind_eq_some_iff.mp H
                obtain ⟨t127, A110, H⟩ := H
                replace H : (postbagref01_Sign0.l0 k2 a0 a1 (IntKind.u64.wrap (x5_2 + (IntKind.u64.wrap (t124 * t127)))) (wrap64 (x6_2 + 1))) = some r := H
                have A11 := Aside0.mk A110
                clear A110
                have H' := Aside0.mk H
                clear H
                go_wp2_with (first | ((with_reducible refine gate_callee (f := 27) rfl ?_); refine goesL_ (some 22) rfl rfl Try.func27 (by kernel_rfl) rfl #[.int .u64 a0, .int .i64 (wrap64 (a1 - 1))] rfl (by (try simp only [List.map_toArray, List.map_cons, List.map_nil]); first | done | rfl | (simp only [List.length_drop, List.length_take]; rfl)) ?_; (with_reducible refine (postbagref01_Bit.calls a0 (wrap64 (a1 - 1)) t124 _ A7.out).mono ?_); rintro e w' ⟨rfl, ⟨nd, rfl⟩⟩; refine ⟨_, rfl, ?_⟩) | ((with_reducible refine gate_callee (f := 28) rfl ?_); refine goesL_ (some 32) rfl rfl Try.func28 (by kernel_rfl) rfl #[.int .i64 x6_2] rfl (by (try simp only [List.map_toArray, List.map_cons, List.map_nil]); first | done | rfl | (simp only [List.length_drop, List.length_take]; rfl)) ?_; (with_reducible refine (postbagref01_power.calls x6_2 t127 _ A11.out).mono ?_); rintro e w' ⟨rfl, ⟨nd, rfl⟩⟩; refine ⟨_, rfl, ?_⟩))
                go_roundg k2
                case measure => have := HJ2.out; have := HK2.out; omega
                case rel => exact ⟨(IntKind.u64.wrap (x5_2 + (IntKind.u64.wrap (t124 * t127)))), (wrap64 (x6_2 + 1)), (by first | rfl | (simp; done) | (simp [*]; done)), (by first | rfl | (simp; done) | (simp [*]; done)), H', ⟨by have := HJ2.out; have := HK2.out; omega⟩, by repeat (first | exact Drawn0.refl _ | apply Drawn0.step)⟩
            · rw [if_neg c6] at H
              have c6b0 : decide (x6_2 < 64) = false := decide_eq_false c6
              clear c6
              obtain rfl := Option.some.inj H
              go_wp2
              go_ret
              exact ⟨by first | rfl | (simp; done) | (simp [*]; done), by repeat (first | exact Drawn0.refl _ | apply Drawn0.step)⟩
def postbagref01_Sign.f (a0 : Int) (a1 : Int) : Option (Int) := if U64 a0 then some (signOf a0 a1) else none
theorem postbagref01_Sign.loop (x : Int) (hx : U64 x) (n : Nat) (h1 : 1 ≤ n) (h2 : n ≤ 63) (d : Nat) : ∀ (k i : Nat), i + d = 64 → d < k →
    postbagref01_Sign0.l0 k x n (signTo x n i) i = some (signOf x n) := by
  induction d with
  | zero =>
    intro k i hi hk
    obtain ⟨k, rfl⟩ : ∃ m, k = m + 1 := ⟨k - 1, by omega⟩
    obtain rfl : i = 64 := by omega
    simp only [postbagref01_Sign0.l0]
    rw [if_neg (by omega), signTo_all x n h1 h2]
  | succ d ih =>
    intro k i hi hk
    obtain ⟨k, rfl⟩ : ∃ m, k = m + 1 := ⟨k - 1, by omega⟩
    simp only [postbagref01_Sign0.l0]
    rw [if_pos (by omega), postbagref01_Bit.eq hx, I64.wrap_eq (show I64 ((i : Int) + 1) by unfold I64; omega), I64.wrap_eq (show I64 ((n : Int) - 1) by unfold I64; omega)]
    simp only [Option.bind_some, postbagref01_power.f]
    have hs := signTo_step x n i h1 h2 (by omega)
    have hr := signTo_range x n (i + 1) hx (by omega) h2
    have hr0 := signTo_range x n i hx (by omega) h2
    have e2 : powOf (i : Int) = 2 ^ i := by unfold powOf; rw [if_neg (by omega), if_neg (by omega), Int.toNat_natCast]
    have hp := ipos i
    have hw : ∀ b : Int, b = 0 ∨ b = 1 → signTo x n (i + 1) = signTo x n i + b * 2 ^ i → IntKind.u64.wrap (signTo x n i + IntKind.u64.wrap (b * 2 ^ i)) = signTo x n (i + 1) := by
      intro b hb he
      have hb2 : U64 (b * 2 ^ i) := by
        rcases hb with rfl | rfl
        · rw [Int.zero_mul]; decide
        · rw [Int.one_mul] at *; unfold U64 at *; omega
      rw [hb2.wrap_eq, ← he, hr.wrap_eq]
    by_cases h : i < n
    · rw [if_pos (by omega), postbagref01_Bit.eq hx]
      simp only [Option.bind_some]
      rw [if_pos h] at hs
      rw [e2, hw _ (bitOf_bool _ _) hs, show ((i : Int) + 1) = ((i + 1 : Nat) : Int) from by omega]
      exact ih k (i + 1) (by omega) (by omega)
    · rw [if_neg (by omega)]
      rw [if_neg h] at hs
      rw [e2, hw _ (bitOf_bool _ _) hs, show ((i : Int) + 1) = ((i + 1 : Nat) : Int) from by omega]
      exact ih k (i + 1) (by omega) (by omega)
theorem postbagref01_Sign.spec (a0 a1 r : Int) (h : postbagref01_Sign.f a0 a1 = some r) : ∃ k, postbagref01_Sign0.f k a0 a1 = some r := by
  unfold postbagref01_Sign.f at h
  by_cases hu : U64 a0
  · rw [if_pos hu] at h
    obtain rfl := Option.some.inj h
    refine ⟨67, ?_⟩
    unfold postbagref01_Sign0.f
    by_cases h1 : a1 < 1
    · rw [if_pos h1]; simp only [postbagref01_Sign0.j0, if_true, signOf]; rw [if_pos (Or.inl h1)]
    · rw [if_neg h1]
      by_cases h2 : a1 > 63
      · rw [decide_eq_true h2]; simp only [postbagref01_Sign0.j0, if_true, signOf]; rw [if_pos (Or.inr h2)]
      · rw [decide_eq_false h2]
        simp only [postbagref01_Sign0.j0]
        obtain ⟨n, rfl⟩ : ∃ n : Nat, a1 = n := ⟨a1.toNat, by omega⟩
        have h := postbagref01_Sign.loop a0 hu n (by omega) (by omega) 64 66 0 (by omega) (by omega)
        rw [if_neg (by decide), ← h]
        congr 1
        unfold signTo; rw [if_pos (by omega), Int.pow_zero, Int.emod_one]
  · rw [if_neg hu] at h; exact absurd h (by simp)
theorem postbagref01_Sign.eq {a0 : Int} (h : U64 a0) (a1 : Int) : postbagref01_Sign.f a0 a1 = some (signOf a0 a1) := if_pos h

theorem postbagref01_Sign.calls (a0 : Int) (a1 : Int) (r : Int) (w : World) (h : postbagref01_Sign.f a0 a1 = some r) :
    Calls Try.prog 15 #[.int .u64 a0, .int .i64 a1] w fun e w' => e = .returned (.int .u64 r) ∧ Drawn0 w w' := by
  obtain ⟨k, hk⟩ := postbagref01_Sign.spec a0 a1 r h
  exact postbagref01_Sign0.calls k a0 a1 r w hk

/-! ### bits_Fits0: function 16 -/
def bits_Fits0.f (a0 : Int) (a1 : Int) : Option (Bool) := if a1 ≥ 64 then (some true) else (if a1 ≥ 1 then ((bits_Sign.f (IntKind.u64.wrap (a0)) a1).bind fun t128 => (some (t128 == (IntKind.u64.wrap (a0))))) else (some false))
set_option maxHeartbeats 8000000 in
set_option maxRecDepth 100000 in
theorem bits_Fits0.calls (a0 : Int) (a1 : Int) (r : Bool) (w : World) (h : bits_Fits0.f a0 a1 = some r) :
    Calls Try.prog 16 #[.int .i64 a0, .int .i64 a1] w fun e w' => e = .returned (.bool r) ∧ Drawn0 w w' := by
  have H : (if a1 ≥ 64 then (some true) else (if a1 ≥ 1 then ((bits_Sign.f (IntKind.u64.wrap (a0)) a1).bind fun t128 => (some (t128 == (IntKind.u64.wrap (a0))))) else (some false))) = some r := h
  clear h
  by_cases c3 : a1 ≥ 64
  · rw [if_pos c3] at H
    have c3b0 : decide (64 ≤ a1) = true := decide_eq_true c3
    clear c3
    obtain rfl := Option.some.inj H
    go_enter Try.func16, Try.ntmps16
    go_wp2
    go_ret
    exact ⟨by first | rfl | (simp; done) | (simp [*]; done), by repeat (first | exact Drawn0.refl _ | apply Drawn0.step)⟩
  · rw [if_neg c3] at H
    have c3b0 : decide (64 ≤ a1) = false := decide_eq_false c3
    clear c3
    by_cases c4 : a1 ≥ 1
    · rw [if_pos c4] at H
      have c4b0 : decide (1 ≤ a1) = true := decide_eq_true c4
      clear c4
      replace H := Option.bind_eq_some_iff.mp H
      obtain ⟨t128, A50, H⟩ := H
      replace H : (some (t128 == (IntKind.u64.wrap (a0)))) = some r := H
      have A5 := Aside0.mk A50
      clear A50
      obtain rfl := Option.some.inj H
      go_enter Try.func16, Try.ntmps16
      go_wp2_with (first | (go_at_call 14; (with_reducible refine (bits_Sign.calls (IntKind.u64.wrap (a0)) a1 t128 _ A5.out).mono ?_); rintro e w' ⟨rfl, ⟨nd, rfl⟩⟩))
      go_ret
      exact ⟨by first | rfl | (simp; done) | (simp [*]; done), by repeat (first | exact Drawn0.refl _ | apply Drawn0.step)⟩
    · rw [if_neg c4] at H
      have c4b0 : decide (1 ≤ a1) = false := decide_eq_false c4
      clear c4
      obtain rfl := Option.some.inj H
      go_enter Try.func16, Try.ntmps16
      go_wp2
      go_ret
      exact ⟨by first | rfl | (simp; done) | (simp [*]; done), by repeat (first | exact Drawn0.refl _ | apply Drawn0.step)⟩
def bits_Fits.f (a0 : Int) (a1 : Int) : Option (Bool) := if I64 a0 then some (fitsOf a0 a1) else none
theorem bits_Fits.spec (a0 a1 : Int) (r : Bool) (h : bits_Fits.f a0 a1 = some r) : bits_Fits0.f a0 a1 = some r := by
  unfold bits_Fits.f at h
  by_cases hu : I64 a0
  · rw [if_pos hu] at h
    obtain rfl := Option.some.inj h
    unfold bits_Fits0.f
    by_cases h2 : a1 ≥ 64
    · rw [if_pos h2, fitsOf, decide_eq_true ⟨by omega, fun h => by omega⟩]
    · rw [if_neg h2]
      by_cases h1 : a1 ≥ 1
      · obtain ⟨n, rfl⟩ : ∃ n : Nat, a1 = n := ⟨a1.toNat, by omega⟩
        rw [if_pos h1, bits_Sign.eq (U64.wrap _)]
        simp only [Option.bind_some]
        rw [fits_sign a0 hu n (by omega) (by omega)]
      · rw [if_neg h1, fitsOf, decide_eq_false (by omega)]
  · rw [if_neg hu] at h; exact absurd h (by simp)
theorem bits_Fits.eq {a0 : Int} (h : I64 a0) (a1 : Int) : bits_Fits.f a0 a1 = some (fitsOf a0 a1) := if_pos h

theorem bits_Fits.calls (a0 : Int) (a1 : Int) (r : Bool) (w : World) (h : bits_Fits.f a0 a1 = some r) :
    Calls Try.prog 16 #[.int .i64 a0, .int .i64 a1] w fun e w' => e = .returned (.bool r) ∧ Drawn0 w w' := by
  have hk := bits_Fits.spec a0 a1 r h
  exact bits_Fits0.calls a0 a1 r w hk

end Go.Proofs.Ytlclelgcdainfaa.PAll
