/- DERIVED. The contracts of the Go functions that one law reaches: each call returns what the plain function beside it says, under that theorem's own premises. Written by a program (hp.py) over the kit's printed words. -/
import Derived.Test.YtlclelgcdainfaaPAllx0
import Derived.Test.YtlclelgcdainfaaPAllx2
import Derived.Test.YtlclelgcdainfaaPAllx4
import Derived.Test.YtlclelgcdainfaaPAllx5
namespace Go.Proofs.Ytlclelgcdainfaa.PAll
open Go.RowKit Go.Proofs.YtlclelgcdainfaaW.PrintWords Go.Proofs.YtlclelgcdainfaaW.PrintLast Go.Proofs.YtlclelgcdainfaaW.PrintMore Go.Proofs.Ytlclelgcdainfaa.M
attribute [local go_sem] max2_int min2_int max_two min_two max_three min_three max_four min_four   -- for this text's walks alone
set_option linter.unusedVariables false
set_option linter.unusedSimpArgs false

/-! ### postbaglaw01_BitsWhole: function 10 -/
def postbaglaw01_BitsWhole.j0 : Nat → Int → Int → Bool → Int → Bool → Option (Bool)
  | 0, _, _, _, _, _ => none
  | k + 1, x0, x1, x2, x8, x34 => if x34 = true then ((postbaglaw01_lives.f).bind fun t180 => (some t180)) else (if x2 = true then (if (wrap64 (x8)) ≥ 0 then (if (wrap64 (x8)) ≤ 0 then (if (wrap64 (x1)) > 0 then (if (wrap64 (x8)) < (wrap64 (x1)) then (if (wrap64 (-(wrap64 (x8)))) < (wrap64 (x1)) then ((postbaglaw01_lives.f).bind fun t181 => (some t181)) else (if (wrap64 (x1)) < 0 then (if (wrap64 (x8)) > (wrap64 (x1)) then (if (wrap64 (-(wrap64 (x8)))) > (wrap64 (x1)) then ((postbaglaw01_lives.f).bind fun t182 => (some t182)) else (some false)) else (some false)) else (some false))) else (if (wrap64 (x1)) < 0 then (if (wrap64 (x8)) > (wrap64 (x1)) then (if (wrap64 (-(wrap64 (x8)))) > (wrap64 (x1)) then ((postbaglaw01_lives.f).bind fun t183 => (some t183)) else (some false)) else (some false)) else (some false))) else (if (wrap64 (x1)) < 0 then (if (wrap64 (x8)) > (wrap64 (x1)) then (if (wrap64 (-(wrap64 (x8)))) > (wrap64 (x1)) then ((postbaglaw01_lives.f).bind fun t184 => (some t184)) else (some false)) else (some false)) else (some false))) else (if (wrap64 (x0)) ≥ 0 then (if (wrap64 (x1)) > 0 then (if (wrap64 (x8)) < (wrap64 (x1)) then (if (wrap64 (-(wrap64 (x8)))) < (wrap64 (x1)) then ((postbaglaw01_lives.f).bind fun t185 => (some t185)) else (if (wrap64 (x1)) < 0 then (if (wrap64 (x8)) > (wrap64 (x1)) then (if (wrap64 (-(wrap64 (x8)))) > (wrap64 (x1)) then ((postbaglaw01_lives.f).bind fun t186 => (some t186)) else (some false)) else (some false)) else (some false))) else (if (wrap64 (x1)) < 0 then (if (wrap64 (x8)) > (wrap64 (x1)) then (if (wrap64 (-(wrap64 (x8)))) > (wrap64 (x1)) then ((postbaglaw01_lives.f).bind fun t187 => (some t187)) else (some false)) else (some false)) else (some false))) else (if (wrap64 (x1)) < 0 then (if (wrap64 (x8)) > (wrap64 (x1)) then (if (wrap64 (-(wrap64 (x8)))) > (wrap64 (x1)) then ((postbaglaw01_lives.f).bind fun t188 => (some t188)) else (some false)) else (some false)) else (some false))) else (some false))) else (if (wrap64 (x0)) < 0 then (if (wrap64 (x8)) ≤ 0 then (if (wrap64 (x1)) > 0 then (if (wrap64 (x8)) < (wrap64 (x1)) then (if (wrap64 (-(wrap64 (x8)))) < (wrap64 (x1)) then ((postbaglaw01_lives.f).bind fun t189 => (some t189)) else (if (wrap64 (x1)) < 0 then (if (wrap64 (x8)) > (wrap64 (x1)) then (if (wrap64 (-(wrap64 (x8)))) > (wrap64 (x1)) then ((postbaglaw01_lives.f).bind fun t190 => (some t190)) else (some false)) else (some false)) else (some false))) else (if (wrap64 (x1)) < 0 then (if (wrap64 (x8)) > (wrap64 (x1)) then (if (wrap64 (-(wrap64 (x8)))) > (wrap64 (x1)) then ((postbaglaw01_lives.f).bind fun t191 => (some t191)) else (some false)) else (some false)) else (some false))) else (if (wrap64 (x1)) < 0 then (if (wrap64 (x8)) > (wrap64 (x1)) then (if (wrap64 (-(wrap64 (x8)))) > (wrap64 (x1)) then ((postbaglaw01_lives.f).bind fun t192 => (some t192)) else (some false)) else (some false)) else (some false))) else (if (wrap64 (x0)) ≥ 0 then (if (wrap64 (x1)) > 0 then (if (wrap64 (x8)) < (wrap64 (x1)) then (if (wrap64 (-(wrap64 (x8)))) < (wrap64 (x1)) then ((postbaglaw01_lives.f).bind fun t193 => (some t193)) else (if (wrap64 (x1)) < 0 then (if (wrap64 (x8)) > (wrap64 (x1)) then (if (wrap64 (-(wrap64 (x8)))) > (wrap64 (x1)) then ((postbaglaw01_lives.f).bind fun t194 => (some t194)) else (some false)) else (some false)) else (some false))) else (if (wrap64 (x1)) < 0 then (if (wrap64 (x8)) > (wrap64 (x1)) then (if (wrap64 (-(wrap64 (x8)))) > (wrap64 (x1)) then ((postbaglaw01_lives.f).bind fun t195 => (some t195)) else (some false)) else (some false)) else (some false))) else (if (wrap64 (x1)) < 0 then (if (wrap64 (x8)) > (wrap64 (x1)) then (if (wrap64 (-(wrap64 (x8)))) > (wrap64 (x1)) then ((postbaglaw01_lives.f).bind fun t196 => (some t196)) else (some false)) else (some false)) else (some false))) else (some false))) else (some false))) else (if x8 < x1 then ((postbaglaw01_lives.f).bind fun t197 => (some t197)) else (some false)))
def postbaglaw01_BitsWhole.f (k : Nat) (a0 : Int) (a1 : Int) (a2 : Bool) : Option (Bool) := (bits_Quo.f a0 a1 a2).bind fun t178 => ((bits_Rem.f a0 a1 a2).bind fun t179 => (if (IntKind.u64.wrap ((IntKind.u64.wrap (t178 * a1)) + t179)) = a0 then (if a1 = 0 then (postbaglaw01_BitsWhole.j0 k a0 a1 a2 t179 true) else (if a2 = true then (postbaglaw01_BitsWhole.j0 k a0 a1 a2 t179 (a1 == 18446744073709551615)) else (postbaglaw01_BitsWhole.j0 k a0 a1 a2 t179 false))) else (some false)))
theorem postbaglaw01_BitsWhole.mono_l : ∀ k, (∀ y0 y1 y2 y3 y4, LeO (postbaglaw01_BitsWhole.j0 k y0 y1 y2 y3 y4) (postbaglaw01_BitsWhole.j0 (k + 1) y0 y1 y2 y3 y4))
  | 0 => fun _ _ _ _ _ r h => by simp [postbaglaw01_BitsWhole.j0] at h
  | k + 1 => by
    have ih0 := postbaglaw01_BitsWhole.mono_l k
    · intro y0 y1 y2 y3 y4
      unfold postbaglaw01_BitsWhole.j0
      repeat' first
      | (with_reducible exact ih0 _ _ _ _ _)
      | (with_reducible exact LeO.refl _)
      | (with_reducible exact LeO.none _)
      | (with_reducible refine LeO.ite ?_ ?_)
      | (with_reducible refine LeO.bind ?_ (fun _ => ?_))
      | exact ih0 _ _ _ _ _
      | exact LeO.none _
      | refine LeO.ite ?_ ?_
      | refine LeO.bind ?_ (fun _ => ?_)
theorem postbaglaw01_BitsWhole.mono : ∀ a0 a1 a2 k, LeO (postbaglaw01_BitsWhole.f k a0 a1 a2) (postbaglaw01_BitsWhole.f (k + 1) a0 a1 a2) := by
  intro a0 a1 a2 k
  have ih0 := postbaglaw01_BitsWhole.mono_l k
  unfold postbaglaw01_BitsWhole.f
  repeat' first
      | (with_reducible exact ih0 _ _ _ _ _)
      | (with_reducible exact LeO.refl _)
      | (with_reducible exact LeO.none _)
      | (with_reducible refine LeO.ite ?_ ?_)
      | (with_reducible refine LeO.bind ?_ (fun _ => ?_))
      | exact ih0 _ _ _ _ _
      | exact LeO.none _
      | refine LeO.ite ?_ ?_
      | refine LeO.bind ?_ (fun _ => ?_)
set_option maxHeartbeats 8000000 in
set_option maxRecDepth 100000 in
theorem postbaglaw01_BitsWhole.calls (k : Nat) (a0 : Int) (a1 : Int) (a2 : Bool) (r : Bool) (w : World) (h : postbaglaw01_BitsWhole.f k a0 a1 a2 = some r) :
    Calls Try.prog 10 #[.int .u64 a0, .int .u64 a1, .bool a2] w fun e w' => e = .returned (.bool r) ∧ Below w.heap.size w w' := by
  have HB := Aside0.mk (Below.refl w.heap.size w)
  have H : ((bits_Quo.f a0 a1 a2).bind fun t178 => ((bits_Rem.f a0 a1 a2).bind fun t179 => (if (IntKind.u64.wrap ((IntKind.u64.wrap (t178 * a1)) + t179)) = a0 then (if a1 = 0 then (postbaglaw01_BitsWhole.j0 k a0 a1 a2 t179 true) else (if a2 = true then (postbaglaw01_BitsWhole.j0 k a0 a1 a2 t179 (a1 == 18446744073709551615)) else (postbaglaw01_BitsWhole.j0 k a0 a1 a2 t179 false))) else (some false)))) = some r := h
  clear h
  replace H := Option.bind_eq_some_iff.mp H
  obtain ⟨t178, A40, H⟩ := H
  replace H : ((bits_Rem.f a0 a1 a2).bind fun t179 => (if (IntKind.u64.wrap ((IntKind.u64.wrap (t178 * a1)) + t179)) = a0 then (if a1 = 0 then (postbaglaw01_BitsWhole.j0 k a0 a1 a2 t179 true) else (if a2 = true then (postbaglaw01_BitsWhole.j0 k a0 a1 a2 t179 (a1 == 18446744073709551615)) else (postbaglaw01_BitsWhole.j0 k a0 a1 a2 t179 false))) else (some false))) = some r := H
  have A4 := Aside0.mk A40
  clear A40
  replace H := Option.bind_eq_some_iff.mp H
  obtain ⟨t179, A50, H⟩ := H
  replace H : (if (IntKind.u64.wrap ((IntKind.u64.wrap (t178 * a1)) + t179)) = a0 then (if a1 = 0 then (postbaglaw01_BitsWhole.j0 k a0 a1 a2 t179 true) else (if a2 = true then (postbaglaw01_BitsWhole.j0 k a0 a1 a2 t179 (a1 == 18446744073709551615)) else (postbaglaw01_BitsWhole.j0 k a0 a1 a2 t179 false))) else (some false)) = some r := H
  have A5 := Aside0.mk A50
  clear A50
  by_cases c6 : (IntKind.u64.wrap ((IntKind.u64.wrap (t178 * a1)) + t179)) = a0
  · rw [if_pos c6] at H
    have c6b0 : ((IntKind.u64.wrap ((IntKind.u64.wrap (t178 * a1)) + t179)) == a0) = true := beq_iff_eq.mpr c6
    have c6b1 : ((IntKind.u64.wrap ((IntKind.u64.wrap (t178 * a1)) + t179)) != a0) = false := bne_eq_false_iff_eq.mpr c6
    clear c6
    have HC7 := Aside0.mk H
    clear H
    go_enter Try.func10, Try.ntmps10
    go_upto_region 4 with (first | ((with_reducible refine gate_callee (f := 22) rfl ?_); refine goesL_ (some 14) rfl rfl Try.func22 (by kernel_rfl) rfl #[.int .u64 a0, .int .u64 a1, .bool a2] rfl (by (try simp only [List.map_toArray, List.map_cons, List.map_nil]); first | done | rfl | (simp only [List.length_drop, List.length_take]; rfl)) ?_; (with_reducible refine (bits_Quo.calls a0 a1 a2 t178 _ A4.out).mono ?_); rintro e w' ⟨rfl, ⟨nd, rfl⟩⟩; refine ⟨_, rfl, ?_⟩) | ((with_reducible refine gate_callee (f := 24) rfl ?_); refine goesL_ (some 18) rfl rfl Try.func24 (by kernel_rfl) rfl #[.int .u64 a0, .int .u64 a1, .bool a2] rfl (by (try simp only [List.map_toArray, List.map_cons, List.map_nil]); first | done | rfl | (simp only [List.length_drop, List.length_take]; rfl)) ?_; (with_reducible refine (bits_Rem.calls a0 a1 a2 t179 _ A5.out).mono ?_); rintro e w' ⟨rfl, ⟨nd, rfl⟩⟩; refine ⟨_, rfl, ?_⟩))
    (try simp only [Act.put, List.setIfInBounds_toArray, List.set_cons_zero, List.set_cons_succ])
    go_cut [34] (fun v34 wc => ∃ (kq : Nat) (x34_6 : Bool), v34 = .bool x34_6 ∧ Aside0 (postbaglaw01_BitsWhole.j0 kq a0 a1 a2 t179 x34_6 = some r) ∧ Aside0 (kq ≤ k) ∧ Aside0 (Below w.heap.size w wc))
    case first =>
      have H := HC7.out
      clear HC7
      by_cases c8 : a1 = 0
      · rw [if_pos c8] at H
        have c8b0 : (a1 == 0) = true := beq_iff_eq.mpr c8
        have c8b1 : (a1 != 0) = false := bne_eq_false_iff_eq.mpr c8
        clear c8
        (first | rw [c8b0] | (simp only [i64_w, i32_w]; rw [c8b0]) | skip)
        have H' := Aside0.mk H
        clear H
        go_wp2
        go_meet
        case rel => exact ⟨_, (true), (by first | rfl | (simp; done) | (simp [*]; done)), H', ⟨by first | omega | exact Nat.le_refl _⟩, ⟨by repeat (first | (with_reducible first | exact HB.out | apply below_alloc | apply pw_below_drewN | apply below_drew1) | exact HB.out)⟩⟩
      · rw [if_neg c8] at H
        have c8b0 : (a1 == 0) = false := beq_eq_false_iff_ne.mpr c8
        have c8b1 : (a1 != 0) = true := bne_iff_ne.mpr c8
        (first | rw [c8b0] | (simp only [i64_w, i32_w]; rw [c8b0]) | skip)
        by_cases c9 : a2 = true
        · subst c9
          have H1 : (postbaglaw01_BitsWhole.j0 k a0 a1 true t179 (a1 == 18446744073709551615)) = some r := by rw [if_pos rfl] at H; exact H
          clear H
          have H := H1
          clear H1
          have H' := Aside0.mk H
          clear H
          go_wp2
          go_meet
          case rel => exact ⟨_, ((a1 == 18446744073709551615)), (by first | rfl | (simp; done) | (simp [*]; done)), H', ⟨by first | omega | exact Nat.le_refl _⟩, ⟨by repeat (first | (with_reducible first | exact HB.out | apply below_alloc | apply pw_below_drewN | apply below_drew1) | exact HB.out)⟩⟩
        · replace c9 := Bool.eq_false_iff.mpr c9
          subst c9
          have H1 : (postbaglaw01_BitsWhole.j0 k a0 a1 false t179 false) = some r := by rw [if_neg (show ¬ (false = true) by decide)] at H; exact H
          clear H
          have H := H1
          clear H1
          have H' := Aside0.mk H
          clear H
          go_wp2
          go_meet
          case rel => exact ⟨_, (false), (by first | rfl | (simp; done) | (simp [*]; done)), H', ⟨by first | omega | exact Nat.le_refl _⟩, ⟨by repeat (first | (with_reducible first | exact HB.out | apply below_alloc | apply pw_below_drewN | apply below_drew1) | exact HB.out)⟩⟩
    case rest =>
      clear HC7
      try clear c1
      try clear c2
      try clear p2
      try clear c6
      try clear c6b0
      try clear c6b1
      try clear c8
      try clear c8b0
      try clear c8b1
      try clear c9
      obtain ⟨kq, x34_6, rfl, HA, HJ6, HB⟩ := hcut
      cases kq with
      | zero => exact absurd HA.out (by simp [postbaglaw01_BitsWhole.j0])
      | succ kj6 =>
        have H := HA.out
        clear HA
        simp only [postbaglaw01_BitsWhole.j0] at H
        by_cases c10 : x34_6 = true
        · subst c10
          have H1 : ((postbaglaw01_lives.f).bind fun t180 => (some t180)) = some r := by rw [if_pos rfl] at H; exact H
          clear H
          have H := H1
          clear H1
          replace H := Option.bind_eq_some_iff.mp H
          obtain ⟨t180, A110, H⟩ := H
          replace H : (some t180) = some r := H
          have A11 := Aside0.mk A110
          clear A110
          obtain rfl := Option.some.inj H
          go_wp2_with (first | ((with_reducible refine gate_callee (f := 13) rfl ?_); refine goesL_ (some 35) rfl rfl Try.func13 (by kernel_rfl) rfl #[] rfl (by (try simp only [List.map_toArray, List.map_cons, List.map_nil]); first | done | rfl | (simp only [List.length_drop, List.length_take]; rfl)) ?_; (with_reducible refine (postbaglaw01_lives.calls  t180 _ A11.out).mono ?_); rintro e w12 ⟨rfl, hb⟩; refine ⟨_, rfl, ?_⟩; have n0_ := Aside0.mk (below_step (by repeat (first | (with_reducible first | exact HB.out | apply below_alloc | apply pw_below_drewN | apply below_drew1) | exact HB.out)) hb); clear HB; have HB := n0_; clear n0_; (try clear hb); (try clear hb2); (try clear hk); (try clear hi)))
          go_ret
          exact ⟨by first | rfl | (simp [errW_none, errW_some] <;> rfl) | (simp [*, errW_none, errW_some] <;> rfl), by repeat (first | (with_reducible first | exact HB.out | apply below_alloc | apply pw_below_drewN | apply below_drew1) | exact HB.out)⟩
        · replace c10 := Bool.eq_false_iff.mpr c10
          subst c10
          have H1 : (if a2 = true then (if (wrap64 (t179)) ≥ 0 then (if (wrap64 (t179)) ≤ 0 then (if (wrap64 (a1)) > 0 then (if (wrap64 (t179)) < (wrap64 (a1)) then (if (wrap64 (-(wrap64 (t179)))) < (wrap64 (a1)) then ((postbaglaw01_lives.f).bind fun t181 => (some t181)) else (if (wrap64 (a1)) < 0 then (if (wrap64 (t179)) > (wrap64 (a1)) then (if (wrap64 (-(wrap64 (t179)))) > (wrap64 (a1)) then ((postbaglaw01_lives.f).bind fun t182 => (some t182)) else (some false)) else (some false)) else (some false))) else (if (wrap64 (a1)) < 0 then (if (wrap64 (t179)) > (wrap64 (a1)) then (if (wrap64 (-(wrap64 (t179)))) > (wrap64 (a1)) then ((postbaglaw01_lives.f).bind fun t183 => (some t183)) else (some false)) else (some false)) else (some false))) else (if (wrap64 (a1)) < 0 then (if (wrap64 (t179)) > (wrap64 (a1)) then (if (wrap64 (-(wrap64 (t179)))) > (wrap64 (a1)) then ((postbaglaw01_lives.f).bind fun t184 => (some t184)) else (some false)) else (some false)) else (some false))) else (if (wrap64 (a0)) ≥ 0 then (if (wrap64 (a1)) > 0 then (if (wrap64 (t179)) < (wrap64 (a1)) then (if (wrap64 (-(wrap64 (t179)))) < (wrap64 (a1)) then ((postbaglaw01_lives.f).bind fun t185 => (some t185)) else (if (wrap64 (a1)) < 0 then (if (wrap64 (t179)) > (wrap64 (a1)) then (if (wrap64 (-(wrap64 (t179)))) > (wrap64 (a1)) then ((postbaglaw01_lives.f).bind fun t186 => (some t186)) else (some false)) else (some false)) else (some false))) else (if (wrap64 (a1)) < 0 then (if (wrap64 (t179)) > (wrap64 (a1)) then (if (wrap64 (-(wrap64 (t179)))) > (wrap64 (a1)) then ((postbaglaw01_lives.f).bind fun t187 => (some t187)) else (some false)) else (some false)) else (some false))) else (if (wrap64 (a1)) < 0 then (if (wrap64 (t179)) > (wrap64 (a1)) then (if (wrap64 (-(wrap64 (t179)))) > (wrap64 (a1)) then ((postbaglaw01_lives.f).bind fun t188 => (some t188)) else (some false)) else (some false)) else (some false))) else (some false))) else (if (wrap64 (a0)) < 0 then (if (wrap64 (t179)) ≤ 0 then (if (wrap64 (a1)) > 0 then (if (wrap64 (t179)) < (wrap64 (a1)) then (if (wrap64 (-(wrap64 (t179)))) < (wrap64 (a1)) then ((postbaglaw01_lives.f).bind fun t189 => (some t189)) else (if (wrap64 (a1)) < 0 then (if (wrap64 (t179)) > (wrap64 (a1)) then (if (wrap64 (-(wrap64 (t179)))) > (wrap64 (a1)) then ((postbaglaw01_lives.f).bind fun t190 => (some t190)) else (some false)) else (some false)) else (some false))) else (if (wrap64 (a1)) < 0 then (if (wrap64 (t179)) > (wrap64 (a1)) then (if (wrap64 (-(wrap64 (t179)))) > (wrap64 (a1)) then ((postbaglaw01_lives.f).bind fun t191 => (some t191)) else (some false)) else (some false)) else (some false))) else (if (wrap64 (a1)) < 0 then (if (wrap64 (t179)) > (wrap64 (a1)) then (if (wrap64 (-(wrap64 (t179)))) > (wrap64 (a1)) then ((postbaglaw01_lives.f).bind fun t192 => (some t192)) else (some false)) else (some false)) else (some false))) else (if (wrap64 (a0)) ≥ 0 then (if (wrap64 (a1)) > 0 then (if (wrap64 (t179)) < (wrap64 (a1)) then (if (wrap64 (-(wrap64 (t179)))) < (wrap64 (a1)) then ((postbaglaw01_lives.f).bind fun t193 => (some t193)) else (if (wrap64 (a1)) < 0 then (if (wrap64 (t179)) > (wrap64 (a1)) then (if (wrap64 (-(wrap64 (t179)))) > (wrap64 (a1)) then ((postbaglaw01_lives.f).bind fun t194 => (some t194)) else (some false)) else (some false)) else (some false))) else (if (wrap64 (a1)) < 0 then (if (wrap64 (t179)) > (wrap64 (a1)) then (if (wrap64 (-(wrap64 (t179)))) > (wrap64 (a1)) then ((postbaglaw01_lives.f).bind fun t195 => (some t195)) else (some false)) else (some false)) else (some false))) else (if (wrap64 (a1)) < 0 then (if (wrap64 (t179)) > (wrap64 (a1)) then (if (wrap64 (-(wrap64 (t179)))) > (wrap64 (a1)) then ((postbaglaw01_lives.f).bind fun t196 => (some t196)) else (some false)) else (some false)) else (some false))) else (some false))) else (some false))) else (if t179 < a1 then ((postbaglaw01_lives.f).bind fun t197 => (some t197)) else (some false))) = some r := by rw [if_neg (show ¬ (false = true) by decide)] at H; exact H
          clear H
          have H := H1
          clear H1
          by_cases c13 : a2 = true
          · subst c13
            have H1 : (if (wrap64 (t179)) ≥ 0 then (if (wrap64 (t179)) ≤ 0 then (if (wrap64 (a1)) > 0 then (if (wrap64 (t179)) < (wrap64 (a1)) then (if (wrap64 (-(wrap64 (t179)))) < (wrap64 (a1)) then ((postbaglaw01_lives.f).bind fun t181 => (some t181)) else (if (wrap64 (a1)) < 0 then (if (wrap64 (t179)) > (wrap64 (a1)) then (if (wrap64 (-(wrap64 (t179)))) > (wrap64 (a1)) then ((postbaglaw01_lives.f).bind fun t182 => (some t182)) else (some false)) else (some false)) else (some false))) else (if (wrap64 (a1)) < 0 then (if (wrap64 (t179)) > (wrap64 (a1)) then (if (wrap64 (-(wrap64 (t179)))) > (wrap64 (a1)) then ((postbaglaw01_lives.f).bind fun t183 => (some t183)) else (some false)) else (some false)) else (some false))) else (if (wrap64 (a1)) < 0 then (if (wrap64 (t179)) > (wrap64 (a1)) then (if (wrap64 (-(wrap64 (t179)))) > (wrap64 (a1)) then ((postbaglaw01_lives.f).bind fun t184 => (some t184)) else (some false)) else (some false)) else (some false))) else (if (wrap64 (a0)) ≥ 0 then (if (wrap64 (a1)) > 0 then (if (wrap64 (t179)) < (wrap64 (a1)) then (if (wrap64 (-(wrap64 (t179)))) < (wrap64 (a1)) then ((postbaglaw01_lives.f).bind fun t185 => (some t185)) else (if (wrap64 (a1)) < 0 then (if (wrap64 (t179)) > (wrap64 (a1)) then (if (wrap64 (-(wrap64 (t179)))) > (wrap64 (a1)) then ((postbaglaw01_lives.f).bind fun t186 => (some t186)) else (some false)) else (some false)) else (some false))) else (if (wrap64 (a1)) < 0 then (if (wrap64 (t179)) > (wrap64 (a1)) then (if (wrap64 (-(wrap64 (t179)))) > (wrap64 (a1)) then ((postbaglaw01_lives.f).bind fun t187 => (some t187)) else (some false)) else (some false)) else (some false))) else (if (wrap64 (a1)) < 0 then (if (wrap64 (t179)) > (wrap64 (a1)) then (if (wrap64 (-(wrap64 (t179)))) > (wrap64 (a1)) then ((postbaglaw01_lives.f).bind fun t188 => (some t188)) else (some false)) else (some false)) else (some false))) else (some false))) else (if (wrap64 (a0)) < 0 then (if (wrap64 (t179)) ≤ 0 then (if (wrap64 (a1)) > 0 then (if (wrap64 (t179)) < (wrap64 (a1)) then (if (wrap64 (-(wrap64 (t179)))) < (wrap64 (a1)) then ((postbaglaw01_lives.f).bind fun t189 => (some t189)) else (if (wrap64 (a1)) < 0 then (if (wrap64 (t179)) > (wrap64 (a1)) then (if (wrap64 (-(wrap64 (t179)))) > (wrap64 (a1)) then ((postbaglaw01_lives.f).bind fun t190 => (some t190)) else (some false)) else (some false)) else (some false))) else (if (wrap64 (a1)) < 0 then (if (wrap64 (t179)) > (wrap64 (a1)) then (if (wrap64 (-(wrap64 (t179)))) > (wrap64 (a1)) then ((postbaglaw01_lives.f).bind fun t191 => (some t191)) else (some false)) else (some false)) else (some false))) else (if (wrap64 (a1)) < 0 then (if (wrap64 (t179)) > (wrap64 (a1)) then (if (wrap64 (-(wrap64 (t179)))) > (wrap64 (a1)) then ((postbaglaw01_lives.f).bind fun t192 => (some t192)) else (some false)) else (some false)) else (some false))) else (if (wrap64 (a0)) ≥ 0 then (if (wrap64 (a1)) > 0 then (if (wrap64 (t179)) < (wrap64 (a1)) then (if (wrap64 (-(wrap64 (t179)))) < (wrap64 (a1)) then ((postbaglaw01_lives.f).bind fun t193 => (some t193)) else (if (wrap64 (a1)) < 0 then (if (wrap64 (t179)) > (wrap64 (a1)) then (if (wrap64 (-(wrap64 (t179)))) > (wrap64 (a1)) then ((postbaglaw01_lives.f).bind fun t194 => (some t194)) else (some false)) else (some false)) else (some false))) else (if (wrap64 (a1)) < 0 then (if (wrap64 (t179)) > (wrap64 (a1)) then (if (wrap64 (-(wrap64 (t179)))) > (wrap64 (a1)) then ((postbaglaw01_lives.f).bind fun t195 => (some t195)) else (some false)) else (some false)) else (some false))) else (if (wrap64 (a1)) < 0 then (if (wrap64 (t179)) > (wrap64 (a1)) then (if (wrap64 (-(wrap64 (t179)))) > (wrap64 (a1)) then ((postbaglaw01_lives.f).bind fun t196 => (some t196)) else (some false)) else (some false)) else (some false))) else (some false))) else (some false))) = some r := by rw [if_pos rfl] at H; exact H
            clear H
            have H := H1
            clear H1
            by_cases c14 : (wrap64 (t179)) ≥ 0
            · rw [if_pos c14] at H
              have c14b0 : decide (0 ≤ (wrap64 (t179))) = true := decide_eq_true c14
              clear c14
              by_cases c15 : (wrap64 (t179)) ≤ 0
              · rw [if_pos c15] at H
                have c15b0 : decide ((wrap64 (t179)) ≤ 0) = true := decide_eq_true c15
                clear c15
                by_cases c16 : (wrap64 (a1)) > 0
                · rw [if_pos c16] at H
                  have c16b0 : decide (0 < (wrap64 (a1))) = true := decide_eq_true c16
                  clear c16
                  by_cases c17 : (wrap64 (t179)) < (wrap64 (a1))
                  · rw [if_pos c17] at H
                    have c17b0 : decide ((wrap64 (t179)) < (wrap64 (a1))) = true := decide_eq_true c17
                    clear c17
                    by_cases c18 : (wrap64 (-(wrap64 (t179)))) < (wrap64 (a1))
                    · rw [if_pos c18] at H
                      have c18b0 : decide ((wrap64 (-(wrap64 (t179)))) < (wrap64 (a1))) = true := decide_eq_true c18
                      clear c18
                      replace H := Option.bind_eq_some_iff.mp H
                      obtain ⟨t181, A190, H⟩ := H
                      replace H : (some t181) = some r := H
                      have A19 := Aside0.mk A190
                      clear A190
                      obtain rfl := Option.some.inj H
                      go_wp2_with (first | (go_at_call 13; (with_reducible refine (postbaglaw01_lives.calls  t181 _ A19.out).mono ?_); rintro e w20 ⟨rfl, hb⟩; have n0_ := Aside0.mk (below_step (by repeat (first | (with_reducible first | exact HB.out | apply below_alloc | apply pw_below_drewN | apply below_drew1) | exact HB.out)) hb); clear HB; have HB := n0_; clear n0_; (try clear hb); (try clear hb2); (try clear hk); (try clear hi)))
                      go_ret
                      exact ⟨by first | rfl | (simp [errW_none, errW_some] <;> rfl) | (simp [*, errW_none, errW_some] <;> rfl), by repeat (first | (with_reducible first | exact HB.out | apply below_alloc | apply pw_below_drewN | apply below_drew1) | exact HB.out)⟩
                    · rw [if_neg c18] at H
                      have c18b0 : decide ((wrap64 (-(wrap64 (t179)))) < (wrap64 (a1))) = false := decide_eq_false c18
                      clear c18
                      by_cases c21 : (wrap64 (a1)) < 0
                      · rw [if_pos c21] at H
                        have c21b0 : decide ((wrap64 (a1)) < 0) = true := decide_eq_true c21
                        clear c21
                        by_cases c22 : (wrap64 (t179)) > (wrap64 (a1))
                        · rw [if_pos c22] at H
                          have c22b0 : decide ((wrap64 (a1)) < (wrap64 (t179))) = true := decide_eq_true c22
                          clear c22
                          by_cases c23 : (wrap64 (-(wrap64 (t179)))) > (wrap64 (a1))
                          · rw [if_pos c23] at H
                            have c23b0 : decide ((wrap64 (a1)) < (wrap64 (-(wrap64 (t179))))) = true := decide_eq_true c23
                            clear c23
                            replace H := Option.bind_eq_some_iff.mp H
                            obtain ⟨t182, A240, H⟩ := H
                            replace H : (some t182) = some r := H
                            have A24 := Aside0.mk A240
                            clear A240
                            obtain rfl := Option.some.inj H
                            go_wp2_with (first | (go_at_call 13; (with_reducible refine (postbaglaw01_lives.calls  t182 _ A24.out).mono ?_); rintro e w25 ⟨rfl, hb⟩; have n0_ := Aside0.mk (below_step (by repeat (first | (with_reducible first | exact HB.out | apply below_alloc | apply pw_below_drewN | apply below_drew1) | exact HB.out)) hb); clear HB; have HB := n0_; clear n0_; (try clear hb); (try clear hb2); (try clear hk); (try clear hi)))
                            go_ret
                            exact ⟨by first | rfl | (simp [errW_none, errW_some] <;> rfl) | (simp [*, errW_none, errW_some] <;> rfl), by repeat (first | (with_reducible first | exact HB.out | apply below_alloc | apply pw_below_drewN | apply below_drew1) | exact HB.out)⟩
                          · rw [if_neg c23] at H
                            have c23b0 : decide ((wrap64 (a1)) < (wrap64 (-(wrap64 (t179))))) = false := decide_eq_false c23
                            clear c23
                            obtain rfl := Option.some.inj H
                            go_wp2
                            go_ret
                            exact ⟨by first | rfl | (simp [errW_none, errW_some] <;> rfl) | (simp [*, errW_none, errW_some] <;> rfl), by repeat (first | (with_reducible first | exact HB.out | apply below_alloc | apply pw_below_drewN | apply below_drew1) | exact HB.out)⟩
                        · rw [if_neg c22] at H
                          have c22b0 : decide ((wrap64 (a1)) < (wrap64 (t179))) = false := decide_eq_false c22
                          clear c22
                          obtain rfl := Option.some.inj H
                          go_wp2
                          go_ret
                          exact ⟨by first | rfl | (simp [errW_none, errW_some] <;> rfl) | (simp [*, errW_none, errW_some] <;> rfl), by repeat (first | (with_reducible first | exact HB.out | apply below_alloc | apply pw_below_drewN | apply below_drew1) | exact HB.out)⟩
                      · rw [if_neg c21] at H
                        have c21b0 : decide ((wrap64 (a1)) < 0) = false := decide_eq_false c21
                        clear c21
                        obtain rfl := Option.some.inj H
                        go_wp2
                        go_ret
                        exact ⟨by first | rfl | (simp [errW_none, errW_some] <;> rfl) | (simp [*, errW_none, errW_some] <;> rfl), by repeat (first | (with_reducible first | exact HB.out | apply below_alloc | apply pw_below_drewN | apply below_drew1) | exact HB.out)⟩
                  · rw [if_neg c17] at H
                    have c17b0 : decide ((wrap64 (t179)) < (wrap64 (a1))) = false := decide_eq_false c17
                    clear c17
                    by_cases c26 : (wrap64 (a1)) < 0
                    · rw [if_pos c26] at H
                      have c26b0 : decide ((wrap64 (a1)) < 0) = true := decide_eq_true c26
                      clear c26
                      by_cases c27 : (wrap64 (t179)) > (wrap64 (a1))
                      · rw [if_pos c27] at H
                        have c27b0 : decide ((wrap64 (a1)) < (wrap64 (t179))) = true := decide_eq_true c27
                        clear c27
                        by_cases c28 : (wrap64 (-(wrap64 (t179)))) > (wrap64 (a1))
                        · rw [if_pos c28] at H
                          have c28b0 : decide ((wrap64 (a1)) < (wrap64 (-(wrap64 (t179))))) = true := decide_eq_true c28
                          clear c28
                          replace H := Option.bind_eq_some_iff.mp H
                          obtain ⟨t183, A290, H⟩ := H
                          replace H : (some t183) = some r := H
                          have A29 := Aside0.mk A290
                          clear A290
                          obtain rfl := Option.some.inj H
                          go_wp2_with (first | (go_at_call 13; (with_reducible refine (postbaglaw01_lives.calls  t183 _ A29.out).mono ?_); rintro e w30 ⟨rfl, hb⟩; have n0_ := Aside0.mk (below_step (by repeat (first | (with_reducible first | exact HB.out | apply below_alloc | apply pw_below_drewN | apply below_drew1) | exact HB.out)) hb); clear HB; have HB := n0_; clear n0_; (try clear hb); (try clear hb2); (try clear hk); (try clear hi)))
                          go_ret
                          exact ⟨by first | rfl | (simp [errW_none, errW_some] <;> rfl) | (simp [*, errW_none, errW_some] <;> rfl), by repeat (first | (with_reducible first | exact HB.out | apply below_alloc | apply pw_below_drewN | apply below_drew1) | exact HB.out)⟩
                        · rw [if_neg c28] at H
                          have c28b0 : decide ((wrap64 (a1)) < (wrap64 (-(wrap64 (t179))))) = false := decide_eq_false c28
                          clear c28
                          obtain rfl := Option.some.inj H
                          go_wp2
                          go_ret
                          exact ⟨by first | rfl | (simp [errW_none, errW_some] <;> rfl) | (simp [*, errW_none, errW_some] <;> rfl), by repeat (first | (with_reducible first | exact HB.out | apply below_alloc | apply pw_below_drewN | apply below_drew1) | exact HB.out)⟩
                      · rw [if_neg c27] at H
                        have c27b0 : decide ((wrap64 (a1)) < (wrap64 (t179))) = false := decide_eq_false c27
                        clear c27
                        obtain rfl := Option.some.inj H
                        go_wp2
                        go_ret
                        exact ⟨by first | rfl | (simp [errW_none, errW_some] <;> rfl) | (simp [*, errW_none, errW_some] <;> rfl), by repeat (first | (with_reducible first | exact HB.out | apply below_alloc | apply pw_below_drewN | apply below_drew1) | exact HB.out)⟩
                    · rw [if_neg c26] at H
                      have c26b0 : decide ((wrap64 (a1)) < 0) = false := decide_eq_false c26
                      clear c26
                      obtain rfl := Option.some.inj H
                      go_wp2
                      go_ret
                      exact ⟨by first | rfl | (simp [errW_none, errW_some] <;> rfl) | (simp [*, errW_none, errW_some] <;> rfl), by repeat (first | (with_reducible first | exact HB.out | apply below_alloc | apply pw_below_drewN | apply below_drew1) | exact HB.out)⟩
                · rw [if_neg c16] at H
                  have c16b0 : decide (0 < (wrap64 (a1))) = false := decide_eq_false c16
                  clear c16
                  by_cases c31 : (wrap64 (a1)) < 0
                  · rw [if_pos c31] at H
                    have c31b0 : decide ((wrap64 (a1)) < 0) = true := decide_eq_true c31
                    clear c31
                    by_cases c32 : (wrap64 (t179)) > (wrap64 (a1))
                    · rw [if_pos c32] at H
                      have c32b0 : decide ((wrap64 (a1)) < (wrap64 (t179))) = true := decide_eq_true c32
                      clear c32
                      by_cases c33 : (wrap64 (-(wrap64 (t179)))) > (wrap64 (a1))
                      · rw [if_pos c33] at H
                        have c33b0 : decide ((wrap64 (a1)) < (wrap64 (-(wrap64 (t179))))) = true := decide_eq_true c33
                        clear c33
                        replace H := Option.bind_eq_some_iff.mp H
                        obtain ⟨t184, A340, H⟩ := H
                        replace H : (some t184) = some r := H
                        have A34 := Aside0.mk A340
                        clear A340
                        obtain rfl := Option.some.inj H
                        go_wp2_with (first | (go_at_call 13; (with_reducible refine (postbaglaw01_lives.calls  t184 _ A34.out).mono ?_); rintro e w35 ⟨rfl, hb⟩; have n0_ := Aside0.mk (below_step (by repeat (first | (with_reducible first | exact HB.out | apply below_alloc | apply pw_below_drewN | apply below_drew1) | exact HB.out)) hb); clear HB; have HB := n0_; clear n0_; (try clear hb); (try clear hb2); (try clear hk); (try clear hi)))
                        go_ret
                        exact ⟨by first | rfl | (simp [errW_none, errW_some] <;> rfl) | (simp [*, errW_none, errW_some] <;> rfl), by repeat (first | (with_reducible first | exact HB.out | apply below_alloc | apply pw_below_drewN | apply below_drew1) | exact HB.out)⟩
                      · rw [if_neg c33] at H
                        have c33b0 : decide ((wrap64 (a1)) < (wrap64 (-(wrap64 (t179))))) = false := decide_eq_false c33
                        clear c33
                        obtain rfl := Option.some.inj H
                        go_wp2
                        go_ret
                        exact ⟨by first | rfl | (simp [errW_none, errW_some] <;> rfl) | (simp [*, errW_none, errW_some] <;> rfl), by repeat (first | (with_reducible first | exact HB.out | apply below_alloc | apply pw_below_drewN | apply below_drew1) | exact HB.out)⟩
                    · rw [if_neg c32] at H
                      have c32b0 : decide ((wrap64 (a1)) < (wrap64 (t179))) = false := decide_eq_false c32
                      clear c32
                      obtain rfl := Option.some.inj H
                      go_wp2
                      go_ret
                      exact ⟨by first | rfl | (simp [errW_none, errW_some] <;> rfl) | (simp [*, errW_none, errW_some] <;> rfl), by repeat (first | (with_reducible first | exact HB.out | apply below_alloc | apply pw_below_drewN | apply below_drew1) | exact HB.out)⟩
                  · rw [if_neg c31] at H
                    have c31b0 : decide ((wrap64 (a1)) < 0) = false := decide_eq_false c31
                    clear c31
                    obtain rfl := Option.some.inj H
                    go_wp2
                    go_ret
                    exact ⟨by first | rfl | (simp [errW_none, errW_some] <;> rfl) | (simp [*, errW_none, errW_some] <;> rfl), by repeat (first | (with_reducible first | exact HB.out | apply below_alloc | apply pw_below_drewN | apply below_drew1) | exact HB.out)⟩
              · rw [if_neg c15] at H
                have c15b0 : decide ((wrap64 (t179)) ≤ 0) = false := decide_eq_false c15
                clear c15
                by_cases c36 : (wrap64 (a0)) ≥ 0
                · rw [if_pos c36] at H
                  have c36b0 : decide (0 ≤ (wrap64 (a0))) = true := decide_eq_true c36
                  clear c36
                  by_cases c37 : (wrap64 (a1)) > 0
                  · rw [if_pos c37] at H
                    have c37b0 : decide (0 < (wrap64 (a1))) = true := decide_eq_true c37
                    clear c37
                    by_cases c38 : (wrap64 (t179)) < (wrap64 (a1))
                    · rw [if_pos c38] at H
                      have c38b0 : decide ((wrap64 (t179)) < (wrap64 (a1))) = true := decide_eq_true c38
                      clear c38
                      by_cases c39 : (wrap64 (-(wrap64 (t179)))) < (wrap64 (a1))
                      · rw [if_pos c39] at H
                        have c39b0 : decide ((wrap64 (-(wrap64 (t179)))) < (wrap64 (a1))) = true := decide_eq_true c39
                        clear c39
                        replace H := Option.bind_eq_some_iff.mp H
                        obtain ⟨t185, A400, H⟩ := H
                        replace H : (some t185) = some r := H
                        have A40 := Aside0.mk A400
                        clear A400
                        obtain rfl := Option.some.inj H
                        go_wp2_with (first | (go_at_call 13; (with_reducible refine (postbaglaw01_lives.calls  t185 _ A40.out).mono ?_); rintro e w41 ⟨rfl, hb⟩; have n0_ := Aside0.mk (below_step (by repeat (first | (with_reducible first | exact HB.out | apply below_alloc | apply pw_below_drewN | apply below_drew1) | exact HB.out)) hb); clear HB; have HB := n0_; clear n0_; (try clear hb); (try clear hb2); (try clear hk); (try clear hi)))
                        go_ret
                        exact ⟨by first | rfl | (simp [errW_none, errW_some] <;> rfl) | (simp [*, errW_none, errW_some] <;> rfl), by repeat (first | (with_reducible first | exact HB.out | apply below_alloc | apply pw_below_drewN | apply below_drew1) | exact HB.out)⟩
                      · rw [if_neg c39] at H
                        have c39b0 : decide ((wrap64 (-(wrap64 (t179)))) < (wrap64 (a1))) = false := decide_eq_false c39
                        clear c39
                        by_cases c42 : (wrap64 (a1)) < 0
                        · rw [if_pos c42] at H
                          have c42b0 : decide ((wrap64 (a1)) < 0) = true := decide_eq_true c42
                          clear c42
                          by_cases c43 : (wrap64 (t179)) > (wrap64 (a1))
                          · rw [if_pos c43] at H
                            have c43b0 : decide ((wrap64 (a1)) < (wrap64 (t179))) = true := decide_eq_true c43
                            clear c43
                            by_cases c44 : (wrap64 (-(wrap64 (t179)))) > (wrap64 (a1))
                            · rw [if_pos c44] at H
                              have c44b0 : decide ((wrap64 (a1)) < (wrap64 (-(wrap64 (t179))))) = true := decide_eq_true c44
                              clear c44
                              replace H := Option.bind_eq_some_iff.mp H
                              obtain ⟨t186, A450, H⟩ := H
                              replace H : (some t186) = some r := H
                              have A45 := Aside0.mk A450
                              clear A450
                              obtain rfl := Option.some.inj H
                              go_wp2_with (first | (go_at_call 13; (with_reducible refine (postbaglaw01_lives.calls  t186 _ A45.out).mono ?_); rintro e w46 ⟨rfl, hb⟩; have n0_ := Aside0.mk (below_step (by repeat (first | (with_reducible first | exact HB.out | apply below_alloc | apply pw_below_drewN | apply below_drew1) | exact HB.out)) hb); clear HB; have HB := n0_; clear n0_; (try clear hb); (try clear hb2); (try clear hk); (try clear hi)))
                              go_ret
                              exact ⟨by first | rfl | (simp [errW_none, errW_some] <;> rfl) | (simp [*, errW_none, errW_some] <;> rfl), by repeat (first | (with_reducible first | exact HB.out | apply below_alloc | apply pw_below_drewN | apply below_drew1) | exact HB.out)⟩
                            · rw [if_neg c44] at H
                              have c44b0 : decide ((wrap64 (a1)) < (wrap64 (-(wrap64 (t179))))) = false := decide_eq_false c44
                              clear c44
                              obtain rfl := Option.some.inj H
                              go_wp2
                              go_ret
                              exact ⟨by first | rfl | (simp [errW_none, errW_some] <;> rfl) | (simp [*, errW_none, errW_some] <;> rfl), by repeat (first | (with_reducible first | exact HB.out | apply below_alloc | apply pw_below_drewN | apply below_drew1) | exact HB.out)⟩
                          · rw [if_neg c43] at H
                            have c43b0 : decide ((wrap64 (a1)) < (wrap64 (t179))) = false := decide_eq_false c43
                            clear c43
                            obtain rfl := Option.some.inj H
                            go_wp2
                            go_ret
                            exact ⟨by first | rfl | (simp [errW_none, errW_some] <;> rfl) | (simp [*, errW_none, errW_some] <;> rfl), by repeat (first | (with_reducible first | exact HB.out | apply below_alloc | apply pw_below_drewN | apply below_drew1) | exact HB.out)⟩
                        · rw [if_neg c42] at H
                          have c42b0 : decide ((wrap64 (a1)) < 0) = false := decide_eq_false c42
                          clear c42
                          obtain rfl := Option.some.inj H
                          go_wp2
                          go_ret
                          exact ⟨by first | rfl | (simp [errW_none, errW_some] <;> rfl) | (simp [*, errW_none, errW_some] <;> rfl), by repeat (first | (with_reducible first | exact HB.out | apply below_alloc | apply pw_below_drewN | apply below_drew1) | exact HB.out)⟩
                    · rw [if_neg c38] at H
                      have c38b0 : decide ((wrap64 (t179)) < (wrap64 (a1))) = false := decide_eq_false c38
                      clear c38
                      by_cases c47 : (wrap64 (a1)) < 0
                      · rw [if_pos c47] at H
                        have c47b0 : decide ((wrap64 (a1)) < 0) = true := decide_eq_true c47
                        clear c47
                        by_cases c48 : (wrap64 (t179)) > (wrap64 (a1))
                        · rw [if_pos c48] at H
                          have c48b0 : decide ((wrap64 (a1)) < (wrap64 (t179))) = true := decide_eq_true c48
                          clear c48
                          by_cases c49 : (wrap64 (-(wrap64 (t179)))) > (wrap64 (a1))
                          · rw [if_pos c49] at H
                            have c49b0 : decide ((wrap64 (a1)) < (wrap64 (-(wrap64 (t179))))) = true := decide_eq_true c49
                            clear c49
                            replace H := Option.bind_eq_some_iff.mp H
                            obtain ⟨t187, A500, H⟩ := H
                            replace H : (some t187) = some r := H
                            have A50 := Aside0.mk A500
                            clear A500
                            obtain rfl := Option.some.inj H
                            go_wp2_with (first | (go_at_call 13; (with_reducible refine (postbaglaw01_lives.calls  t187 _ A50.out).mono ?_); rintro e w51 ⟨rfl, hb⟩; have n0_ := Aside0.mk (below_step (by repeat (first | (with_reducible first | exact HB.out | apply below_alloc | apply pw_below_drewN | apply below_drew1) | exact HB.out)) hb); clear HB; have HB := n0_; clear n0_; (try clear hb); (try clear hb2); (try clear hk); (try clear hi)))
                            go_ret
                            exact ⟨by first | rfl | (simp [errW_none, errW_some] <;> rfl) | (simp [*, errW_none, errW_some] <;> rfl), by repeat (first | (with_reducible first | exact HB.out | apply below_alloc | apply pw_below_drewN | apply below_drew1) | exact HB.out)⟩
                          · rw [if_neg c49] at H
                            have c49b0 : decide ((wrap64 (a1)) < (wrap64 (-(wrap64 (t179))))) = false := decide_eq_false c49
                            clear c49
                            obtain rfl := Option.some.inj H
                            go_wp2
                            go_ret
                            exact ⟨by first | rfl | (simp [errW_none, errW_some] <;> rfl) | (simp [*, errW_none, errW_some] <;> rfl), by repeat (first | (with_reducible first | exact HB.out | apply below_alloc | apply pw_below_drewN | apply below_drew1) | exact HB.out)⟩
                        · rw [if_neg c48] at H
                          have c48b0 : decide ((wrap64 (a1)) < (wrap64 (t179))) = false := decide_eq_false c48
                          clear c48
                          obtain rfl := Option.some.inj H
                          go_wp2
                          go_ret
                          exact ⟨by first | rfl | (simp [errW_none, errW_some] <;> rfl) | (simp [*, errW_none, errW_some] <;> rfl), by repeat (first | (with_reducible first | exact HB.out | apply below_alloc | apply pw_below_drewN | apply below_drew1) | exact HB.out)⟩
                      · rw [if_neg c47] at H
                        have c47b0 : decide ((wrap64 (a1)) < 0) = false := decide_eq_false c47
                        clear c47
                        obtain rfl := Option.some.inj H
                        go_wp2
                        go_ret
                        exact ⟨by first | rfl | (simp [errW_none, errW_some] <;> rfl) | (simp [*, errW_none, errW_some] <;> rfl), by repeat (first | (with_reducible first | exact HB.out | apply below_alloc | apply pw_below_drewN | apply below_drew1) | exact HB.out)⟩
                  · rw [if_neg c37] at H
                    have c37b0 : decide (0 < (wrap64 (a1))) = false := decide_eq_false c37
                    clear c37
                    by_cases c52 : (wrap64 (a1)) < 0
                    · rw [if_pos c52] at H
                      have c52b0 : decide ((wrap64 (a1)) < 0) = true := decide_eq_true c52
                      clear c52
                      by_cases c53 : (wrap64 (t179)) > (wrap64 (a1))
                      · rw [if_pos c53] at H
                        have c53b0 : decide ((wrap64 (a1)) < (wrap64 (t179))) = true := decide_eq_true c53
                        clear c53
                        by_cases c54 : (wrap64 (-(wrap64 (t179)))) > (wrap64 (a1))
                        · rw [if_pos c54] at H
                          have c54b0 : decide ((wrap64 (a1)) < (wrap64 (-(wrap64 (t179))))) = true := decide_eq_true c54
                          clear c54
                          replace H := Option.bind_eq_some_iff.mp H
                          obtain ⟨t188, A550, H⟩ := H
                          replace H : (some t188) = some r := H
                          have A55 := Aside0.mk A550
                          clear A550
                          obtain rfl := Option.some.inj H
                          go_wp2_with (first | (go_at_call 13; (with_reducible refine (postbaglaw01_lives.calls  t188 _ A55.out).mono ?_); rintro e w56 ⟨rfl, hb⟩; have n0_ := Aside0.mk (below_step (by repeat (first | (with_reducible first | exact HB.out | apply below_alloc | apply pw_below_drewN | apply below_drew1) | exact HB.out)) hb); clear HB; have HB := n0_; clear n0_; (try clear hb); (try clear hb2); (try clear hk); (try clear hi)))
                          go_ret
                          exact ⟨by first | rfl | (simp [errW_none, errW_some] <;> rfl) | (simp [*, errW_none, errW_some] <;> rfl), by repeat (first | (with_reducible first | exact HB.out | apply below_alloc | apply pw_below_drewN | apply below_drew1) | exact HB.out)⟩
                        · rw [if_neg c54] at H
                          have c54b0 : decide ((wrap64 (a1)) < (wrap64 (-(wrap64 (t179))))) = false := decide_eq_false c54
                          clear c54
                          obtain rfl := Option.some.inj H
                          go_wp2
                          go_ret
                          exact ⟨by first | rfl | (simp [errW_none, errW_some] <;> rfl) | (simp [*, errW_none, errW_some] <;> rfl), by repeat (first | (with_reducible first | exact HB.out | apply below_alloc | apply pw_below_drewN | apply below_drew1) | exact HB.out)⟩
                      · rw [if_neg c53] at H
                        have c53b0 : decide ((wrap64 (a1)) < (wrap64 (t179))) = false := decide_eq_false c53
                        clear c53
                        obtain rfl := Option.some.inj H
                        go_wp2
                        go_ret
                        exact ⟨by first | rfl | (simp [errW_none, errW_some] <;> rfl) | (simp [*, errW_none, errW_some] <;> rfl), by repeat (first | (with_reducible first | exact HB.out | apply below_alloc | apply pw_below_drewN | apply below_drew1) | exact HB.out)⟩
                    · rw [if_neg c52] at H
                      have c52b0 : decide ((wrap64 (a1)) < 0) = false := decide_eq_false c52
                      clear c52
                      obtain rfl := Option.some.inj H
                      go_wp2
                      go_ret
                      exact ⟨by first | rfl | (simp [errW_none, errW_some] <;> rfl) | (simp [*, errW_none, errW_some] <;> rfl), by repeat (first | (with_reducible first | exact HB.out | apply below_alloc | apply pw_below_drewN | apply below_drew1) | exact HB.out)⟩
                · rw [if_neg c36] at H
                  have c36b0 : decide (0 ≤ (wrap64 (a0))) = false := decide_eq_false c36
                  clear c36
                  obtain rfl := Option.some.inj H
                  go_wp2
                  go_ret
                  exact ⟨by first | rfl | (simp [errW_none, errW_some] <;> rfl) | (simp [*, errW_none, errW_some] <;> rfl), by repeat (first | (with_reducible first | exact HB.out | apply below_alloc | apply pw_below_drewN | apply below_drew1) | exact HB.out)⟩
            · rw [if_neg c14] at H
              have c14b0 : decide (0 ≤ (wrap64 (t179))) = false := decide_eq_false c14
              clear c14
              by_cases c57 : (wrap64 (a0)) < 0
              · rw [if_pos c57] at H
                have c57b0 : decide ((wrap64 (a0)) < 0) = true := decide_eq_true c57
                clear c57
                by_cases c58 : (wrap64 (t179)) ≤ 0
                · rw [if_pos c58] at H
                  have c58b0 : decide ((wrap64 (t179)) ≤ 0) = true := decide_eq_true c58
                  clear c58
                  by_cases c59 : (wrap64 (a1)) > 0
                  · rw [if_pos c59] at H
                    have c59b0 : decide (0 < (wrap64 (a1))) = true := decide_eq_true c59
                    clear c59
                    by_cases c60 : (wrap64 (t179)) < (wrap64 (a1))
                    · rw [if_pos c60] at H
                      have c60b0 : decide ((wrap64 (t179)) < (wrap64 (a1))) = true := decide_eq_true c60
                      clear c60
                      by_cases c61 : (wrap64 (-(wrap64 (t179)))) < (wrap64 (a1))
                      · rw [if_pos c61] at H
                        have c61b0 : decide ((wrap64 (-(wrap64 (t179)))) < (wrap64 (a1))) = true := decide_eq_true c61
                        clear c61
                        replace H := Option.bind_eq_some_iff.mp H
                        obtain ⟨t189, A620, H⟩ := H
                        replace H : (some t189) = some r := H
                        have A62 := Aside0.mk A620
                        clear A620
                        obtain rfl := Option.some.inj H
                        go_wp2_with (first | (go_at_call 13; (with_reducible refine (postbaglaw01_lives.calls  t189 _ A62.out).mono ?_); rintro e w63 ⟨rfl, hb⟩; have n0_ := Aside0.mk (below_step (by repeat (first | (with_reducible first | exact HB.out | apply below_alloc | apply pw_below_drewN | apply below_drew1) | exact HB.out)) hb); clear HB; have HB := n0_; clear n0_; (try clear hb); (try clear hb2); (try clear hk); (try clear hi)))
                        go_ret
                        exact ⟨by first | rfl | (simp [errW_none, errW_some] <;> rfl) | (simp [*, errW_none, errW_some] <;> rfl), by repeat (first | (with_reducible first | exact HB.out | apply below_alloc | apply pw_below_drewN | apply below_drew1) | exact HB.out)⟩
                      · rw [if_neg c61] at H
                        have c61b0 : decide ((wrap64 (-(wrap64 (t179)))) < (wrap64 (a1))) = false := decide_eq_false c61
                        clear c61
                        by_cases c64 : (wrap64 (a1)) < 0
                        · rw [if_pos c64] at H
                          have c64b0 : decide ((wrap64 (a1)) < 0) = true := decide_eq_true c64
                          clear c64
                          by_cases c65 : (wrap64 (t179)) > (wrap64 (a1))
                          · rw [if_pos c65] at H
                            have c65b0 : decide ((wrap64 (a1)) < (wrap64 (t179))) = true := decide_eq_true c65
                            clear c65
                            by_cases c66 : (wrap64 (-(wrap64 (t179)))) > (wrap64 (a1))
                            · rw [if_pos c66] at H
                              have c66b0 : decide ((wrap64 (a1)) < (wrap64 (-(wrap64 (t179))))) = true := decide_eq_true c66
                              clear c66
                              replace H := Option.bind_eq_some_iff.mp H
                              obtain ⟨t190, A670, H⟩ := H
                              replace H : (some t190) = some r := H
                              have A67 := Aside0.mk A670
                              clear A670
                              obtain rfl := Option.some.inj H
                              go_wp2_with (first | (go_at_call 13; (with_reducible refine (postbaglaw01_lives.calls  t190 _ A67.out).mono ?_); rintro e w68 ⟨rfl, hb⟩; have n0_ := Aside0.mk (below_step (by repeat (first | (with_reducible first | exact HB.out | apply below_alloc | apply pw_below_drewN | apply below_drew1) | exact HB.out)) hb); clear HB; have HB := n0_; clear n0_; (try clear hb); (try clear hb2); (try clear hk); (try clear hi)))
                              go_ret
                              exact ⟨by first | rfl | (simp [errW_none, errW_some] <;> rfl) | (simp [*, errW_none, errW_some] <;> rfl), by repeat (first | (with_reducible first | exact HB.out | apply below_alloc | apply pw_below_drewN | apply below_drew1) | exact HB.out)⟩
                            · rw [if_neg c66] at H
                              have c66b0 : decide ((wrap64 (a1)) < (wrap64 (-(wrap64 (t179))))) = false := decide_eq_false c66
                              clear c66
                              obtain rfl := Option.some.inj H
                              go_wp2
                              go_ret
                              exact ⟨by first | rfl | (simp [errW_none, errW_some] <;> rfl) | (simp [*, errW_none, errW_some] <;> rfl), by repeat (first | (with_reducible first | exact HB.out | apply below_alloc | apply pw_below_drewN | apply below_drew1) | exact HB.out)⟩
                          · rw [if_neg c65] at H
                            have c65b0 : decide ((wrap64 (a1)) < (wrap64 (t179))) = false := decide_eq_false c65
                            clear c65
                            obtain rfl := Option.some.inj H
                            go_wp2
                            go_ret
                            exact ⟨by first | rfl | (simp [errW_none, errW_some] <;> rfl) | (simp [*, errW_none, errW_some] <;> rfl), by repeat (first | (with_reducible first | exact HB.out | apply below_alloc | apply pw_below_drewN | apply below_drew1) | exact HB.out)⟩
                        · rw [if_neg c64] at H
                          have c64b0 : decide ((wrap64 (a1)) < 0) = false := decide_eq_false c64
                          clear c64
                          obtain rfl := Option.some.inj H
                          go_wp2
                          go_ret
                          exact ⟨by first | rfl | (simp [errW_none, errW_some] <;> rfl) | (simp [*, errW_none, errW_some] <;> rfl), by repeat (first | (with_reducible first | exact HB.out | apply below_alloc | apply pw_below_drewN | apply below_drew1) | exact HB.out)⟩
                    · rw [if_neg c60] at H
                      have c60b0 : decide ((wrap64 (t179)) < (wrap64 (a1))) = false := decide_eq_false c60
                      clear c60
                      by_cases c69 : (wrap64 (a1)) < 0
                      · rw [if_pos c69] at H
                        have c69b0 : decide ((wrap64 (a1)) < 0) = true := decide_eq_true c69
                        clear c69
                        by_cases c70 : (wrap64 (t179)) > (wrap64 (a1))
                        · rw [if_pos c70] at H
                          have c70b0 : decide ((wrap64 (a1)) < (wrap64 (t179))) = true := decide_eq_true c70
                          clear c70
                          by_cases c71 : (wrap64 (-(wrap64 (t179)))) > (wrap64 (a1))
                          · rw [if_pos c71] at H
                            have c71b0 : decide ((wrap64 (a1)) < (wrap64 (-(wrap64 (t179))))) = true := decide_eq_true c71
                            clear c71
                            replace H := Option.bind_eq_some_iff.mp H
                            obtain ⟨t191, A720, H⟩ := H
                            replace H : (some t191) = some r := H
                            have A72 := Aside0.mk A720
                            clear A720
                            obtain rfl := Option.some.inj H
                            go_wp2_with (first | (go_at_call 13; (with_reducible refine (postbaglaw01_lives.calls  t191 _ A72.out).mono ?_); rintro e w73 ⟨rfl, hb⟩; have n0_ := Aside0.mk (below_step (by repeat (first | (with_reducible first | exact HB.out | apply below_alloc | apply pw_below_drewN | apply below_drew1) | exact HB.out)) hb); clear HB; have HB := n0_; clear n0_; (try clear hb); (try clear hb2); (try clear hk); (try clear hi)))
                            go_ret
                            exact ⟨by first | rfl | (simp [errW_none, errW_some] <;> rfl) | (simp [*, errW_none, errW_some] <;> rfl), by repeat (first | (with_reducible first | exact HB.out | apply below_alloc | apply pw_below_drewN | apply below_drew1) | exact HB.out)⟩
                          · rw [if_neg c71] at H
                            have c71b0 : decide ((wrap64 (a1)) < (wrap64 (-(wrap64 (t179))))) = false := decide_eq_false c71
                            clear c71
                            obtain rfl := Option.some.inj H
                            go_wp2
                            go_ret
                            exact ⟨by first | rfl | (simp [errW_none, errW_some] <;> rfl) | (simp [*, errW_none, errW_some] <;> rfl), by repeat (first | (with_reducible first | exact HB.out | apply below_alloc | apply pw_below_drewN | apply below_drew1) | exact HB.out)⟩
                        · rw [if_neg c70] at H
                          have c70b0 : decide ((wrap64 (a1)) < (wrap64 (t179))) = false := decide_eq_false c70
                          clear c70
                          obtain rfl := Option.some.inj H
                          go_wp2
                          go_ret
                          exact ⟨by first | rfl | (simp [errW_none, errW_some] <;> rfl) | (simp [*, errW_none, errW_some] <;> rfl), by repeat (first | (with_reducible first | exact HB.out | apply below_alloc | apply pw_below_drewN | apply below_drew1) | exact HB.out)⟩
                      · rw [if_neg c69] at H
                        have c69b0 : decide ((wrap64 (a1)) < 0) = false := decide_eq_false c69
                        clear c69
                        obtain rfl := Option.some.inj H
                        go_wp2
                        go_ret
                        exact ⟨by first | rfl | (simp [errW_none, errW_some] <;> rfl) | (simp [*, errW_none, errW_some] <;> rfl), by repeat (first | (with_reducible first | exact HB.out | apply below_alloc | apply pw_below_drewN | apply below_drew1) | exact HB.out)⟩
                  · rw [if_neg c59] at H
                    have c59b0 : decide (0 < (wrap64 (a1))) = false := decide_eq_false c59
                    clear c59
                    by_cases c74 : (wrap64 (a1)) < 0
                    · rw [if_pos c74] at H
                      have c74b0 : decide ((wrap64 (a1)) < 0) = true := decide_eq_true c74
                      clear c74
                      by_cases c75 : (wrap64 (t179)) > (wrap64 (a1))
                      · rw [if_pos c75] at H
                        have c75b0 : decide ((wrap64 (a1)) < (wrap64 (t179))) = true := decide_eq_true c75
                        clear c75
                        by_cases c76 : (wrap64 (-(wrap64 (t179)))) > (wrap64 (a1))
                        · rw [if_pos c76] at H
                          have c76b0 : decide ((wrap64 (a1)) < (wrap64 (-(wrap64 (t179))))) = true := decide_eq_true c76
                          clear c76
                          replace H := Option.bind_eq_some_iff.mp H
                          obtain ⟨t192, A770, H⟩ := H
                          replace H : (some t192) = some r := H
                          have A77 := Aside0.mk A770
                          clear A770
                          obtain rfl := Option.some.inj H
                          go_wp2_with (first | (go_at_call 13; (with_reducible refine (postbaglaw01_lives.calls  t192 _ A77.out).mono ?_); rintro e w78 ⟨rfl, hb⟩; have n0_ := Aside0.mk (below_step (by repeat (first | (with_reducible first | exact HB.out | apply below_alloc | apply pw_below_drewN | apply below_drew1) | exact HB.out)) hb); clear HB; have HB := n0_; clear n0_; (try clear hb); (try clear hb2); (try clear hk); (try clear hi)))
                          go_ret
                          exact ⟨by first | rfl | (simp [errW_none, errW_some] <;> rfl) | (simp [*, errW_none, errW_some] <;> rfl), by repeat (first | (with_reducible first | exact HB.out | apply below_alloc | apply pw_below_drewN | apply below_drew1) | exact HB.out)⟩
                        · rw [if_neg c76] at H
                          have c76b0 : decide ((wrap64 (a1)) < (wrap64 (-(wrap64 (t179))))) = false := decide_eq_false c76
                          clear c76
                          obtain rfl := Option.some.inj H
                          go_wp2
                          go_ret
                          exact ⟨by first | rfl | (simp [errW_none, errW_some] <;> rfl) | (simp [*, errW_none, errW_some] <;> rfl), by repeat (first | (with_reducible first | exact HB.out | apply below_alloc | apply pw_below_drewN | apply below_drew1) | exact HB.out)⟩
                      · rw [if_neg c75] at H
                        have c75b0 : decide ((wrap64 (a1)) < (wrap64 (t179))) = false := decide_eq_false c75
                        clear c75
                        obtain rfl := Option.some.inj H
                        go_wp2
                        go_ret
                        exact ⟨by first | rfl | (simp [errW_none, errW_some] <;> rfl) | (simp [*, errW_none, errW_some] <;> rfl), by repeat (first | (with_reducible first | exact HB.out | apply below_alloc | apply pw_below_drewN | apply below_drew1) | exact HB.out)⟩
                    · rw [if_neg c74] at H
                      have c74b0 : decide ((wrap64 (a1)) < 0) = false := decide_eq_false c74
                      clear c74
                      obtain rfl := Option.some.inj H
                      go_wp2
                      go_ret
                      exact ⟨by first | rfl | (simp [errW_none, errW_some] <;> rfl) | (simp [*, errW_none, errW_some] <;> rfl), by repeat (first | (with_reducible first | exact HB.out | apply below_alloc | apply pw_below_drewN | apply below_drew1) | exact HB.out)⟩
                · rw [if_neg c58] at H
                  have c58b0 : decide ((wrap64 (t179)) ≤ 0) = false := decide_eq_false c58
                  clear c58
                  by_cases c79 : (wrap64 (a0)) ≥ 0
                  · rw [if_pos c79] at H
                    have c79b0 : decide (0 ≤ (wrap64 (a0))) = true := decide_eq_true c79
                    clear c79
                    by_cases c80 : (wrap64 (a1)) > 0
                    · rw [if_pos c80] at H
                      have c80b0 : decide (0 < (wrap64 (a1))) = true := decide_eq_true c80
                      clear c80
                      by_cases c81 : (wrap64 (t179)) < (wrap64 (a1))
                      · rw [if_pos c81] at H
                        have c81b0 : decide ((wrap64 (t179)) < (wrap64 (a1))) = true := decide_eq_true c81
                        clear c81
                        by_cases c82 : (wrap64 (-(wrap64 (t179)))) < (wrap64 (a1))
                        · rw [if_pos c82] at H
                          have c82b0 : decide ((wrap64 (-(wrap64 (t179)))) < (wrap64 (a1))) = true := decide_eq_true c82
                          clear c82
                          replace H := Option.bind_eq_some_iff.mp H
                          obtain ⟨t193, A830, H⟩ := H
                          replace H : (some t193) = some r := H
                          have A83 := Aside0.mk A830
                          clear A830
                          obtain rfl := Option.some.inj H
                          go_wp2_with (first | (go_at_call 13; (with_reducible refine (postbaglaw01_lives.calls  t193 _ A83.out).mono ?_); rintro e w84 ⟨rfl, hb⟩; have n0_ := Aside0.mk (below_step (by repeat (first | (with_reducible first | exact HB.out | apply below_alloc | apply pw_below_drewN | apply below_drew1) | exact HB.out)) hb); clear HB; have HB := n0_; clear n0_; (try clear hb); (try clear hb2); (try clear hk); (try clear hi)))
                          go_ret
                          exact ⟨by first | rfl | (simp [errW_none, errW_some] <;> rfl) | (simp [*, errW_none, errW_some] <;> rfl), by repeat (first | (with_reducible first | exact HB.out | apply below_alloc | apply pw_below_drewN | apply below_drew1) | exact HB.out)⟩
                        · rw [if_neg c82] at H
                          have c82b0 : decide ((wrap64 (-(wrap64 (t179)))) < (wrap64 (a1))) = false := decide_eq_false c82
                          clear c82
                          by_cases c85 : (wrap64 (a1)) < 0
                          · rw [if_pos c85] at H
                            have c85b0 : decide ((wrap64 (a1)) < 0) = true := decide_eq_true c85
                            clear c85
                            by_cases c86 : (wrap64 (t179)) > (wrap64 (a1))
                            · rw [if_pos c86] at H
                              have c86b0 : decide ((wrap64 (a1)) < (wrap64 (t179))) = true := decide_eq_true c86
                              clear c86
                              by_cases c87 : (wrap64 (-(wrap64 (t179)))) > (wrap64 (a1))
                              · rw [if_pos c87] at H
                                have c87b0 : decide ((wrap64 (a1)) < (wrap64 (-(wrap64 (t179))))) = true := decide_eq_true c87
                                clear c87
                                replace H := Option.bind_eq_some_iff.mp H
                                obtain ⟨t194, A880, H⟩ := H
                                replace H : (some t194) = some r := H
                                have A88 := Aside0.mk A880
                                clear A880
                                obtain rfl := Option.some.inj H
                                go_wp2_with (first | (go_at_call 13; (with_reducible refine (postbaglaw01_lives.calls  t194 _ A88.out).mono ?_); rintro e w89 ⟨rfl, hb⟩; have n0_ := Aside0.mk (below_step (by repeat (first | (with_reducible first | exact HB.out | apply below_alloc | apply pw_below_drewN | apply below_drew1) | exact HB.out)) hb); clear HB; have HB := n0_; clear n0_; (try clear hb); (try clear hb2); (try clear hk); (try clear hi)))
                                go_ret
                                exact ⟨by first | rfl | (simp [errW_none, errW_some] <;> rfl) | (simp [*, errW_none, errW_some] <;> rfl), by repeat (first | (with_reducible first | exact HB.out | apply below_alloc | apply pw_below_drewN | apply below_drew1) | exact HB.out)⟩
                              · rw [if_neg c87] at H
                                have c87b0 : decide ((wrap64 (a1)) < (wrap64 (-(wrap64 (t179))))) = false := decide_eq_false c87
                                clear c87
                                obtain rfl := Option.some.inj H
                                go_wp2
                                go_ret
                                exact ⟨by first | rfl | (simp [errW_none, errW_some] <;> rfl) | (simp [*, errW_none, errW_some] <;> rfl), by repeat (first | (with_reducible first | exact HB.out | apply below_alloc | apply pw_below_drewN | apply below_drew1) | exact HB.out)⟩
                            · rw [if_neg c86] at H
                              have c86b0 : decide ((wrap64 (a1)) < (wrap64 (t179))) = false := decide_eq_false c86
                              clear c86
                              obtain rfl := Option.some.inj H
                              go_wp2
                              go_ret
                              exact ⟨by first | rfl | (simp [errW_none, errW_some] <;> rfl) | (simp [*, errW_none, errW_some] <;> rfl), by repeat (first | (with_reducible first | exact HB.out | apply below_alloc | apply pw_below_drewN | apply below_drew1) | exact HB.out)⟩
                          · rw [if_neg c85] at H
                            have c85b0 : decide ((wrap64 (a1)) < 0) = false := decide_eq_false c85
                            clear c85
                            obtain rfl := Option.some.inj H
                            go_wp2
                            go_ret
                            exact ⟨by first | rfl | (simp [errW_none, errW_some] <;> rfl) | (simp [*, errW_none, errW_some] <;> rfl), by repeat (first | (with_reducible first | exact HB.out | apply below_alloc | apply pw_below_drewN | apply below_drew1) | exact HB.out)⟩
                      · rw [if_neg c81] at H
                        have c81b0 : decide ((wrap64 (t179)) < (wrap64 (a1))) = false := decide_eq_false c81
                        clear c81
                        by_cases c90 : (wrap64 (a1)) < 0
                        · rw [if_pos c90] at H
                          have c90b0 : decide ((wrap64 (a1)) < 0) = true := decide_eq_true c90
                          clear c90
                          by_cases c91 : (wrap64 (t179)) > (wrap64 (a1))
                          · rw [if_pos c91] at H
                            have c91b0 : decide ((wrap64 (a1)) < (wrap64 (t179))) = true := decide_eq_true c91
                            clear c91
                            by_cases c92 : (wrap64 (-(wrap64 (t179)))) > (wrap64 (a1))
                            · rw [if_pos c92] at H
                              have c92b0 : decide ((wrap64 (a1)) < (wrap64 (-(wrap64 (t179))))) = true := decide_eq_true c92
                              clear c92
                              replace H := Option.bind_eq_some_iff.mp H
                              obtain ⟨t195, A930, H⟩ := H
                              replace H : (some t195) = some r := H
                              have A93 := Aside0.mk A930
                              clear A930
                              obtain rfl := Option.some.inj H
                              go_wp2_with (first | (go_at_call 13; (with_reducible refine (postbaglaw01_lives.calls  t195 _ A93.out).mono ?_); rintro e w94 ⟨rfl, hb⟩; have n0_ := Aside0.mk (below_step (by repeat (first | (with_reducible first | exact HB.out | apply below_alloc | apply pw_below_drewN | apply below_drew1) | exact HB.out)) hb); clear HB; have HB := n0_; clear n0_; (try clear hb); (try clear hb2); (try clear hk); (try clear hi)))
                              go_ret
                              exact ⟨by first | rfl | (simp [errW_none, errW_some] <;> rfl) | (simp [*, errW_none, errW_some] <;> rfl), by repeat (first | (with_reducible first | exact HB.out | apply below_alloc | apply pw_below_drewN | apply below_drew1) | exact HB.out)⟩
                            · rw [if_neg c92] at H
                              have c92b0 : decide ((wrap64 (a1)) < (wrap64 (-(wrap64 (t179))))) = false := decide_eq_false c92
                              clear c92
                              obtain rfl := Option.some.inj H
                              go_wp2
                              go_ret
                              exact ⟨by first | rfl | (simp [errW_none, errW_some] <;> rfl) | (simp [*, errW_none, errW_some] <;> rfl), by repeat (first | (with_reducible first | exact HB.out | apply below_alloc | apply pw_below_drewN | apply below_drew1) | exact HB.out)⟩
                          · rw [if_neg c91] at H
                            have c91b0 : decide ((wrap64 (a1)) < (wrap64 (t179))) = false := decide_eq_false c91
                            clear c91
                            obtain rfl := Option.some.inj H
                            go_wp2
                            go_ret
                            exact ⟨by first | rfl | (simp [errW_none, errW_some] <;> rfl) | (simp [*, errW_none, errW_some] <;> rfl), by repeat (first | (with_reducible first | exact HB.out | apply below_alloc | apply pw_below_drewN | apply below_drew1) | exact HB.out)⟩
                        · rw [if_neg c90] at H
                          have c90b0 : decide ((wrap64 (a1)) < 0) = false := decide_eq_false c90
                          clear c90
                          obtain rfl := Option.some.inj H
                          go_wp2
                          go_ret
                          exact ⟨by first | rfl | (simp [errW_none, errW_some] <;> rfl) | (simp [*, errW_none, errW_some] <;> rfl), by repeat (first | (with_reducible first | exact HB.out | apply below_alloc | apply pw_below_drewN | apply below_drew1) | exact HB.out)⟩
                    · rw [if_neg c80] at H
                      have c80b0 : decide (0 < (wrap64 (a1))) = false := decide_eq_false c80
                      clear c80
                      by_cases c95 : (wrap64 (a1)) < 0
                      · rw [if_pos c95] at H
                        have c95b0 : decide ((wrap64 (a1)) < 0) = true := decide_eq_true c95
                        clear c95
                        by_cases c96 : (wrap64 (t179)) > (wrap64 (a1))
                        · rw [if_pos c96] at H
                          have c96b0 : decide ((wrap64 (a1)) < (wrap64 (t179))) = true := decide_eq_true c96
                          clear c96
                          by_cases c97 : (wrap64 (-(wrap64 (t179)))) > (wrap64 (a1))
                          · rw [if_pos c97] at H
                            have c97b0 : decide ((wrap64 (a1)) < (wrap64 (-(wrap64 (t179))))) = true := decide_eq_true c97
                            clear c97
                            replace H := Option.bind_eq_some_iff.mp H
                            obtain ⟨t196, A980, H⟩ := H
                            replace H : (some t196) = some r := H
                            have A98 := Aside0.mk A980
                            clear A980
                            obtain rfl := Option.some.inj H
                            go_wp2_with (first | (go_at_call 13; (with_reducible refine (postbaglaw01_lives.calls  t196 _ A98.out).mono ?_); rintro e w99 ⟨rfl, hb⟩; have n0_ := Aside0.mk (below_step (by repeat (first | (with_reducible first | exact HB.out | apply below_alloc | apply pw_below_drewN | apply below_drew1) | exact HB.out)) hb); clear HB; have HB := n0_; clear n0_; (try clear hb); (try clear hb2); (try clear hk); (try clear hi)))
                            go_ret
                            exact ⟨by first | rfl | (simp [errW_none, errW_some] <;> rfl) | (simp [*, errW_none, errW_some] <;> rfl), by repeat (first | (with_reducible first | exact HB.out | apply below_alloc | apply pw_below_drewN | apply below_drew1) | exact HB.out)⟩
                          · rw [if_neg c97] at H
                            have c97b0 : decide ((wrap64 (a1)) < (wrap64 (-(wrap64 (t179))))) = false := decide_eq_false c97
                            clear c97
                            obtain rfl := Option.some.inj H
                            go_wp2
                            go_ret
                            exact ⟨by first | rfl | (simp [errW_none, errW_some] <;> rfl) | (simp [*, errW_none, errW_some] <;> rfl), by repeat (first | (with_reducible first | exact HB.out | apply below_alloc | apply pw_below_drewN | apply below_drew1) | exact HB.out)⟩
                        · rw [if_neg c96] at H
                          have c96b0 : decide ((wrap64 (a1)) < (wrap64 (t179))) = false := decide_eq_false c96
                          clear c96
                          obtain rfl := Option.some.inj H
                          go_wp2
                          go_ret
                          exact ⟨by first | rfl | (simp [errW_none, errW_some] <;> rfl) | (simp [*, errW_none, errW_some] <;> rfl), by repeat (first | (with_reducible first | exact HB.out | apply below_alloc | apply pw_below_drewN | apply below_drew1) | exact HB.out)⟩
                      · rw [if_neg c95] at H
                        have c95b0 : decide ((wrap64 (a1)) < 0) = false := decide_eq_false c95
                        clear c95
                        obtain rfl := Option.some.inj H
                        go_wp2
                        go_ret
                        exact ⟨by first | rfl | (simp [errW_none, errW_some] <;> rfl) | (simp [*, errW_none, errW_some] <;> rfl), by repeat (first | (with_reducible first | exact HB.out | apply below_alloc | apply pw_below_drewN | apply below_drew1) | exact HB.out)⟩
                  · rw [if_neg c79] at H
                    have c79b0 : decide (0 ≤ (wrap64 (a0))) = false := decide_eq_false c79
                    clear c79
                    obtain rfl := Option.some.inj H
                    go_wp2
                    go_ret
                    exact ⟨by first | rfl | (simp [errW_none, errW_some] <;> rfl) | (simp [*, errW_none, errW_some] <;> rfl), by repeat (first | (with_reducible first | exact HB.out | apply below_alloc | apply pw_below_drewN | apply below_drew1) | exact HB.out)⟩
              · rw [if_neg c57] at H
                have c57b0 : decide ((wrap64 (a0)) < 0) = false := decide_eq_false c57
                clear c57
                obtain rfl := Option.some.inj H
                go_wp2
                go_ret
                exact ⟨by first | rfl | (simp [errW_none, errW_some] <;> rfl) | (simp [*, errW_none, errW_some] <;> rfl), by repeat (first | (with_reducible first | exact HB.out | apply below_alloc | apply pw_below_drewN | apply below_drew1) | exact HB.out)⟩
          · replace c13 := Bool.eq_false_iff.mpr c13
            subst c13
            have H1 : (if t179 < a1 then ((postbaglaw01_lives.f).bind fun t197 => (some t197)) else (some false)) = some r := by rw [if_neg (show ¬ (false = true) by decide)] at H; exact H
            clear H
            have H := H1
            clear H1
            by_cases c100 : t179 < a1
            · rw [if_pos c100] at H
              have c100b0 : decide (t179 < a1) = true := decide_eq_true c100
              clear c100
              replace H := Option.bind_eq_some_iff.mp H
              obtain ⟨t197, A1010, H⟩ := H
              replace H : (some t197) = some r := H
              have A101 := Aside0.mk A1010
              clear A1010
              obtain rfl := Option.some.inj H
              go_wp2_with (first | (go_at_call 13; (with_reducible refine (postbaglaw01_lives.calls  t197 _ A101.out).mono ?_); rintro e w102 ⟨rfl, hb⟩; have n0_ := Aside0.mk (below_step (by repeat (first | (with_reducible first | exact HB.out | apply below_alloc | apply pw_below_drewN | apply below_drew1) | exact HB.out)) hb); clear HB; have HB := n0_; clear n0_; (try clear hb); (try clear hb2); (try clear hk); (try clear hi)))
              go_ret
              exact ⟨by first | rfl | (simp [errW_none, errW_some] <;> rfl) | (simp [*, errW_none, errW_some] <;> rfl), by repeat (first | (with_reducible first | exact HB.out | apply below_alloc | apply pw_below_drewN | apply below_drew1) | exact HB.out)⟩
            · rw [if_neg c100] at H
              have c100b0 : decide (t179 < a1) = false := decide_eq_false c100
              clear c100
              obtain rfl := Option.some.inj H
              go_wp2
              go_ret
              exact ⟨by first | rfl | (simp [errW_none, errW_some] <;> rfl) | (simp [*, errW_none, errW_some] <;> rfl), by repeat (first | (with_reducible first | exact HB.out | apply below_alloc | apply pw_below_drewN | apply below_drew1) | exact HB.out)⟩
  · rw [if_neg c6] at H
    have c6b0 : ((IntKind.u64.wrap ((IntKind.u64.wrap (t178 * a1)) + t179)) == a0) = false := beq_eq_false_iff_ne.mpr c6
    have c6b1 : ((IntKind.u64.wrap ((IntKind.u64.wrap (t178 * a1)) + t179)) != a0) = true := bne_iff_ne.mpr c6
    obtain rfl := Option.some.inj H
    go_enter Try.func10, Try.ntmps10
    go_wp2_with (first | ((with_reducible refine gate_callee (f := 22) rfl ?_); refine goesL_ (some 14) rfl rfl Try.func22 (by kernel_rfl) rfl #[.int .u64 a0, .int .u64 a1, .bool a2] rfl (by (try simp only [List.map_toArray, List.map_cons, List.map_nil]); first | done | rfl | (simp only [List.length_drop, List.length_take]; rfl)) ?_; (with_reducible refine (bits_Quo.calls a0 a1 a2 t178 _ A4.out).mono ?_); rintro e w' ⟨rfl, ⟨nd, rfl⟩⟩; refine ⟨_, rfl, ?_⟩) | ((with_reducible refine gate_callee (f := 24) rfl ?_); refine goesL_ (some 18) rfl rfl Try.func24 (by kernel_rfl) rfl #[.int .u64 a0, .int .u64 a1, .bool a2] rfl (by (try simp only [List.map_toArray, List.map_cons, List.map_nil]); first | done | rfl | (simp only [List.length_drop, List.length_take]; rfl)) ?_; (with_reducible refine (bits_Rem.calls a0 a1 a2 t179 _ A5.out).mono ?_); rintro e w' ⟨rfl, ⟨nd, rfl⟩⟩; refine ⟨_, rfl, ?_⟩))
    go_ret
    exact ⟨by first | rfl | (simp [errW_none, errW_some] <;> rfl) | (simp [*, errW_none, errW_some] <;> rfl), by repeat (first | (with_reducible first | exact HB.out | apply below_alloc | apply pw_below_drewN | apply below_drew1) | exact HB.out)⟩

/-- THE ONE PURE STATEMENT of postbaglaw01_BitsWhole: yours. -/
def postbaglaw01_BitsWhole.Pure : Prop := ∀ (a0 : Int) (a1 : Int) (a2 : Bool), (Lit.int .u64 a0).wf = true → (Lit.int .u64 a1).wf = true → ∃ k, postbaglaw01_BitsWhole.f k a0 a1 a2 = some true
theorem postbaglaw01_BitsWhole.walk (P : postbaglaw01_BitsWhole.Pure) (a0 : Int) (a1 : Int) (a2 : Bool) (w : World) (w0 : (Lit.int .u64 a0).wf = true) (w1 : (Lit.int .u64 a1).wf = true) :
    Calls Try.prog 10 #[.int .u64 a0, .int .u64 a1, .bool a2] w fun e w' => e = .returned (.bool true) ∧ Below w.heap.size w w' := by
  obtain ⟨k, h⟩ := P a0 a1 a2 w0 w1
  refine (postbaglaw01_BitsWhole.calls k a0 a1 a2 true w h).mono ?_
  rintro e w' ⟨rfl, hd⟩
  exact ⟨rfl, hd⟩

end Go.Proofs.Ytlclelgcdainfaa.PAll
