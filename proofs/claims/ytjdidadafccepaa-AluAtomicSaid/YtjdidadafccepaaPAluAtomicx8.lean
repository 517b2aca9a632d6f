/- DERIVED. The contracts of the Go functions that one law reaches: each call returns what the plain function beside it says, under that theorem's own premises. Written by a program (hp.py) over the kit's printed words. -/
import Derived.Test.YtjdidadafccepaaPAluAtomicx0
import Derived.Test.YtjdidadafccepaaPAluAtomicx6
import Derived.Test.YtjdidadafccepaaPAluAtomicx7
namespace Go.Proofs.Ytjdidadafccepaa.PAluAtomic
open Go.RowKit Go.Proofs.YtjdidadafccepaaW.PrintWords Go.Proofs.YtjdidadafccepaaW.PrintLast Go.Proofs.YtjdidadafccepaaW.PrintMore Go.Proofs.Ytjdidadafccepaa.M
attribute [local go_sem] max2_int min2_int max_two min_two max_three min_three max_four min_four   -- for this text's walks alone
set_option linter.unusedVariables false
set_option linter.unusedSimpArgs false

/-! ### postbaglaw04_AluAtomic: function 8 -/
def postbaglaw04_AluAtomic.j0 : Nat → Int → Int → Int → Int → Option (Bool)
  | 0, _, _, _, _ => none
  | k + 1, x1, x2, x3, x9 => (alu_Stored.f k x9 x1 x2).bind fun t155 => ((alu_Stored.f k x9 t155 x3).bind fun t156 => ((alu_Stored.f k x9 x1 x3).bind fun t157 => ((alu_Stored.f k x9 t157 x2).bind fun t158 => (if t156 = t158 then ((postbaglaw04_lives.f k).bind fun t159 => (some t159)) else (some false)))))
def postbaglaw04_AluAtomic.f (k : Nat) (a0 : Int) (a1 : Int) (a2 : Int) (a3 : Int) : Option (Bool) := if (wrap64 (Int.tmod (IntKind.u64.wrap (a0)) 16)) > 7 then (postbaglaw04_AluAtomic.j0 k a1 a2 a3 (wrap64 ((wrap64 (69 + (wrap64 (Int.tmod (IntKind.u64.wrap (a0)) 8)))) + 11))) else (postbaglaw04_AluAtomic.j0 k a1 a2 a3 (wrap64 (69 + (wrap64 (Int.tmod (IntKind.u64.wrap (a0)) 8)))))
theorem postbaglaw04_AluAtomic.mono_l : ∀ k, (∀ y0 y1 y2 y3, LeO (postbaglaw04_AluAtomic.j0 k y0 y1 y2 y3) (postbaglaw04_AluAtomic.j0 (k + 1) y0 y1 y2 y3))
  | 0 => fun _ _ _ _ r h => by simp [postbaglaw04_AluAtomic.j0] at h
  | k + 1 => by
    have ih0 := postbaglaw04_AluAtomic.mono_l k
    · intro y0 y1 y2 y3
      unfold postbaglaw04_AluAtomic.j0
      repeat' first
      | (with_reducible exact ih0 _ _ _ _)
      | (with_reducible exact alu_Stored.mono _ _ _ _)
      | (with_reducible exact postbaglaw04_lives.mono _)
      | (with_reducible exact LeO.refl _)
      | (with_reducible exact LeO.none _)
      | (with_reducible refine LeO.ite ?_ ?_)
      | (with_reducible refine LeO.bind ?_ (fun _ => ?_))
      | exact ih0 _ _ _ _
      | exact alu_Stored.mono _ _ _ _
      | exact postbaglaw04_lives.mono _
      | exact LeO.none _
      | refine LeO.ite ?_ ?_
      | refine LeO.bind ?_ (fun _ => ?_)
theorem postbaglaw04_AluAtomic.mono : ∀ a0 a1 a2 a3 k, LeO (postbaglaw04_AluAtomic.f k a0 a1 a2 a3) (postbaglaw04_AluAtomic.f (k + 1) a0 a1 a2 a3) := by
  intro a0 a1 a2 a3 k
  have ih0 := postbaglaw04_AluAtomic.mono_l k
  unfold postbaglaw04_AluAtomic.f
  repeat' first
      | (with_reducible exact ih0 _ _ _ _)
      | (with_reducible exact alu_Stored.mono _ _ _ _)
      | (with_reducible exact postbaglaw04_lives.mono _)
      | (with_reducible exact LeO.refl _)
      | (with_reducible exact LeO.none _)
      | (with_reducible refine LeO.ite ?_ ?_)
      | (with_reducible refine LeO.bind ?_ (fun _ => ?_))
      | exact ih0 _ _ _ _
      | exact alu_Stored.mono _ _ _ _
      | exact postbaglaw04_lives.mono _
      | exact LeO.none _
      | refine LeO.ite ?_ ?_
      | refine LeO.bind ?_ (fun _ => ?_)
set_option maxHeartbeats 8000000 in
set_option maxRecDepth 100000 in
theorem postbaglaw04_AluAtomic.calls (k : Nat) (a0 : Int) (a1 : Int) (a2 : Int) (a3 : Int) (w : World) (h : postbaglaw04_AluAtomic.f k a0 a1 a2 a3 = some true) :
    Calls Try.prog 8 #[.int .i64 a0, .int .u64 a1, .int .u64 a2, .int .u64 a3] w fun e w' => e = .returned (.bool true) ∧ Below w.heap.size w w' := by
  have HB := Aside0.mk (Below.refl w.heap.size w)
  have H : (if (wrap64 (Int.tmod (IntKind.u64.wrap (a0)) 16)) > 7 then (postbaglaw04_AluAtomic.j0 k a1 a2 a3 (wrap64 ((wrap64 (69 + (wrap64 (Int.tmod (IntKind.u64.wrap (a0)) 8)))) + 11))) else (postbaglaw04_AluAtomic.j0 k a1 a2 a3 (wrap64 (69 + (wrap64 (Int.tmod (IntKind.u64.wrap (a0)) 8)))))) = some true := h
  clear h
  have HC5 := Aside0.mk H
  clear H
  go_enter Try.func8, Try.ntmps8
  go_upto_if 19 with (fail)
  go_cut [9] (fun v9 wc => ∃ (kq : Nat) (x9_4 : Int), v9 = .int .i64 x9_4 ∧ Aside0 (postbaglaw04_AluAtomic.j0 kq a1 a2 a3 x9_4 = some true) ∧ Aside0 (kq ≤ k) ∧ Aside0 (Below w.heap.size w wc))
  case first =>
    have H := HC5.out
    clear HC5
    by_cases c6 : (wrap64 (Int.tmod (IntKind.u64.wrap (a0)) 16)) > 7
    · rw [if_pos c6] at H
      have c6b0 : decide (7 < (wrap64 (Int.tmod (IntKind.u64.wrap (a0)) 16))) = true := decide_eq_true c6
      clear c6
      (first | rw [c6b0] | (simp only [i64_w, i32_w]; rw [c6b0]) | skip)
      have H' := Aside0.mk H
      clear H
      go_wp2
      go_meet
      case rel => exact ⟨_, (wrap64 ((wrap64 (69 + (wrap64 (Int.tmod (IntKind.u64.wrap (a0)) 8)))) + 11)), (by first | rfl | (simp; done) | (simp [*]; done)), H', ⟨by first | omega | exact Nat.le_refl _⟩, ⟨by repeat (first | (with_reducible first | exact HB.out | apply below_alloc | apply pw_below_drewN | apply below_drew1) | exact HB.out)⟩⟩
    · rw [if_neg c6] at H
      have c6b0 : decide (7 < (wrap64 (Int.tmod (IntKind.u64.wrap (a0)) 16))) = false := decide_eq_false c6
      clear c6
      (first | rw [c6b0] | (simp only [i64_w, i32_w]; rw [c6b0]) | skip)
      have H' := Aside0.mk H
      clear H
      go_wp2
      go_meet
      case rel => exact ⟨_, (wrap64 (69 + (wrap64 (Int.tmod (IntKind.u64.wrap (a0)) 8)))), (by first | rfl | (simp; done) | (simp [*]; done)), H', ⟨by first | omega | exact Nat.le_refl _⟩, ⟨by repeat (first | (with_reducible first | exact HB.out | apply below_alloc | apply pw_below_drewN | apply below_drew1) | exact HB.out)⟩⟩
  case rest =>
    clear HC5
    try clear p2
    try clear c6
    try clear c6b0
    try clear p6
    obtain ⟨kq, x9_4, rfl, HA, HJ4, HB⟩ := hcut
    cases kq with
    | zero => exact absurd HA.out (by simp [postbaglaw04_AluAtomic.j0])
    | succ kj4 =>
      have H := HA.out
      clear HA
      simp only [postbaglaw04_AluAtomic.j0] at H
      replace H := Option.bind_eq_some_iff.mp H
      obtain ⟨t155, A70, H⟩ := H
      replace H : ((alu_Stored.f kj4 x9_4 t155 a3).bind fun t156 => ((alu_Stored.f kj4 x9_4 a1 a3).bind fun t157 => ((alu_Stored.f kj4 x9_4 t157 a2).bind fun t158 => (if t156 = t158 then ((postbaglaw04_lives.f kj4).bind fun t159 => (some t159)) else (some false))))) = some true := H
      have A7 := Aside0.mk A70
      clear A70
      replace H := Option.bind_eq_some_iff.mp H
      obtain ⟨t156, A80, H⟩ := H
      replace H : ((alu_Stored.f kj4 x9_4 a1 a3).bind fun t157 => ((alu_Stored.f kj4 x9_4 t157 a2).bind fun t158 => (if t156 = t158 then ((postbaglaw04_lives.f kj4).bind fun t159 => (some t159)) else (some false)))) = some true := H
      have A8 := Aside0.mk A80
      clear A80
      replace H := Option.bind_eq_some_iff.mp H
      obtain ⟨t157, A90, H⟩ := H
      replace H : ((alu_Stored.f kj4 x9_4 t157 a2).bind fun t158 => (if t156 = t158 then ((postbaglaw04_lives.f kj4).bind fun t159 => (some t159)) else (some false))) = some true := H
      have A9 := Aside0.mk A90
      clear A90
      replace H := Option.bind_eq_some_iff.mp H
      obtain ⟨t158, A100, H⟩ := H
      replace H : (if t156 = t158 then ((postbaglaw04_lives.f kj4).bind fun t159 => (some t159)) else (some false)) = some true := H
      have A10 := Aside0.mk A100
      clear A100
      by_cases c11 : t156 = t158
      · rw [if_pos c11] at H
        have c11b0 : (t156 == t158) = true := beq_iff_eq.mpr c11
        have c11b1 : (t156 != t158) = false := bne_eq_false_iff_eq.mpr c11
        clear c11
        replace H := Option.bind_eq_some_iff.mp H
        obtain ⟨t159, A120, H⟩ := H
        replace H : (some t159) = some true := H
        have A12 := Aside0.mk A120
        clear A120
        obtain rfl := Option.some.inj H
        go_wp2_with (first | ((with_reducible refine gate_callee (f := 23) rfl ?_); refine goesL_ (some 26) rfl rfl Try.func23 (by kernel_rfl) rfl #[.int .i64 x9_4, .int .u64 a1, .int .u64 a2] rfl (by (try simp only [List.map_toArray, List.map_cons, List.map_nil]); first | done | rfl | (simp only [List.length_drop, List.length_take]; rfl)) ?_; (with_reducible refine (alu_Stored.calls kj4 x9_4 a1 a2 t155 _ A7.out).mono ?_); rintro e w13 ⟨rfl, hb⟩; refine ⟨_, rfl, ?_⟩; have n0_ := Aside0.mk (below_step (by repeat (first | (with_reducible first | exact HB.out | apply below_alloc | apply pw_below_drewN | apply below_drew1) | exact HB.out)) hb); clear HB; have HB := n0_; clear n0_; (try clear hb); (try clear hb2); (try clear hk); (try clear hi)) | ((with_reducible refine gate_callee (f := 23) rfl ?_); refine goesL_ (some 28) rfl rfl Try.func23 (by kernel_rfl) rfl #[.int .i64 x9_4, .int .u64 t155, .int .u64 a3] rfl (by (try simp only [List.map_toArray, List.map_cons, List.map_nil]); first | done | rfl | (simp only [List.length_drop, List.length_take]; rfl)) ?_; (with_reducible refine (alu_Stored.calls kj4 x9_4 t155 a3 t156 _ A8.out).mono ?_); rintro e w14 ⟨rfl, hb⟩; refine ⟨_, rfl, ?_⟩; have n0_ := Aside0.mk (below_step (by repeat (first | (with_reducible first | exact HB.out | apply below_alloc | apply pw_below_drewN | apply below_drew1) | exact HB.out)) hb); clear HB; have HB := n0_; clear n0_; (try clear hb); (try clear hb2); (try clear hk); (try clear hi)) | ((with_reducible refine gate_callee (f := 23) rfl ?_); refine goesL_ (some 33) rfl rfl Try.func23 (by kernel_rfl) rfl #[.int .i64 x9_4, .int .u64 a1, .int .u64 a3] rfl (by (try simp only [List.map_toArray, List.map_cons, List.map_nil]); first | done | rfl | (simp only [List.length_drop, List.length_take]; rfl)) ?_; (with_reducible refine (alu_Stored.calls kj4 x9_4 a1 a3 t157 _ A9.out).mono ?_); rintro e w15 ⟨rfl, hb⟩; refine ⟨_, rfl, ?_⟩; have n0_ := Aside0.mk (below_step (by repeat (first | (with_reducible first | exact HB.out | apply below_alloc | apply pw_below_drewN | apply below_drew1) | exact HB.out)) hb); clear HB; have HB := n0_; clear n0_; (try clear hb); (try clear hb2); (try clear hk); (try clear hi)) | ((with_reducible refine gate_callee (f := 23) rfl ?_); refine goesL_ (some 35) rfl rfl Try.func23 (by kernel_rfl) rfl #[.int .i64 x9_4, .int .u64 t157, .int .u64 a2] rfl (by (try simp only [List.map_toArray, List.map_cons, List.map_nil]); first | done | rfl | (simp only [List.length_drop, List.length_take]; rfl)) ?_; (with_reducible refine (alu_Stored.calls kj4 x9_4 t157 a2 t158 _ A10.out).mono ?_); rintro e w16 ⟨rfl, hb⟩; refine ⟨_, rfl, ?_⟩; have n0_ := Aside0.mk (below_step (by repeat (first | (with_reducible first | exact HB.out | apply below_alloc | apply pw_below_drewN | apply below_drew1) | exact HB.out)) hb); clear HB; have HB := n0_; clear n0_; (try clear hb); (try clear hb2); (try clear hk); (try clear hi)) | (go_at_call 12; (with_reducible refine (postbaglaw04_lives.calls kj4  true _ A12.out).mono ?_); rintro e w17 ⟨rfl, hb⟩; have n0_ := Aside0.mk (below_step (by repeat (first | (with_reducible first | exact HB.out | apply below_alloc | apply pw_below_drewN | apply below_drew1) | exact HB.out)) hb); clear HB; have HB := n0_; clear n0_; (try clear hb); (try clear hb2); (try clear hk); (try clear hi)))
        go_ret
        exact ⟨by first | rfl | (simp [errW_none, errW_some] <;> rfl) | (simp [*, errW_none, errW_some] <;> rfl), by repeat (first | (with_reducible first | exact HB.out | apply below_alloc | apply pw_below_drewN | apply below_drew1) | exact HB.out)⟩
      · rw [if_neg c11] at H
        have c11b0 : (t156 == t158) = false := beq_eq_false_iff_ne.mpr c11
        have c11b1 : (t156 != t158) = true := bne_iff_ne.mpr c11
        exact absurd H (by simp)

/-- THE ONE PURE STATEMENT of postbaglaw04_AluAtomic: yours. -/
def postbaglaw04_AluAtomic.Pure : Prop := ∀ (a0 : Int) (a1 : Int) (a2 : Int) (a3 : Int), (Lit.int .i64 a0).wf = true → (Lit.int .u64 a1).wf = true → (Lit.int .u64 a2).wf = true → (Lit.int .u64 a3).wf = true → ∃ k, postbaglaw04_AluAtomic.f k a0 a1 a2 a3 = some true
theorem postbaglaw04_AluAtomic.walk (P : postbaglaw04_AluAtomic.Pure) (a0 : Int) (a1 : Int) (a2 : Int) (a3 : Int) (w : World) (w0 : (Lit.int .i64 a0).wf = true) (w1 : (Lit.int .u64 a1).wf = true) (w2 : (Lit.int .u64 a2).wf = true) (w3 : (Lit.int .u64 a3).wf = true) :
    Calls Try.prog 8 #[.int .i64 a0, .int .u64 a1, .int .u64 a2, .int .u64 a3] w fun e w' => e = .returned (.bool true) ∧ Below w.heap.size w w' := by
  obtain ⟨k, h⟩ := P a0 a1 a2 a3 w0 w1 w2 w3
  refine (postbaglaw04_AluAtomic.calls k a0 a1 a2 a3 w h).mono ?_
  rintro e w' ⟨rfl, hd⟩
  exact ⟨rfl, hd⟩

end Go.Proofs.Ytjdidadafccepaa.PAluAtomic
