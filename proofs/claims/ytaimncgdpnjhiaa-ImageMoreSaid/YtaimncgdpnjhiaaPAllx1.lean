/- DERIVED. The contracts of the Go functions that one law reaches: each call returns what the plain function beside it says, under that theorem's own premises. Written by a program (hp.py) over the kit's printed words. -/
import Derived.Test.YtaimncgdpnjhiaaPAllx0
namespace Go.Proofs.Ytaimncgdpnjhiaa.PAll
open Go.RowKit Go.Proofs.YtaimncgdpnjhiaaW.PrintWords Go.Proofs.YtaimncgdpnjhiaaW.PrintLast Go.Proofs.YtaimncgdpnjhiaaW.PrintMore Go.Proofs.Ytaimncgdpnjhiaa.M
attribute [local go_sem] max2_int min2_int max_two min_two max_three min_three max_four min_four   -- for this text's walks alone
set_option linter.unusedVariables false
set_option linter.unusedSimpArgs false

/-! ### image_Good: function 10 -/
def image_Good.f (a0_0 : Int) (a0_1 : Int) (a0_2 : Int) (a0_3 : Int) (a0_4 : Int) : Option (Bool) := some (goodOf a0_0 a0_1 a0_2 a0_3 a0_4)
set_option maxHeartbeats 4000000 in
theorem image_Good.calls (a0_0 : Int) (a0_1 : Int) (a0_2 : Int) (a0_3 : Int) (a0_4 : Int) (r : Bool) (w : World) (h : image_Good.f a0_0 a0_1 a0_2 a0_3 a0_4 = some r) :
    Calls Try.prog 10 #[.agg #[.int .i64 a0_0, .int .i64 a0_1, .int .i64 a0_2, .int .i64 a0_3, .int .i64 a0_4]] w fun e w' => e = .returned (.bool r) ∧ Below w.heap.size w w' := by
  obtain rfl := Option.some.inj h
  clear h
  have i0 : ∀ (x0 x1 x2 x3 x4 x5 x6 x7 x8 x9 x10 x11 x12 x13 x14 : Int) w, (Instr.index 55 (.agg #[.int .i64 x0, .int .i64 x1, .int .i64 x2, .int .i64 x3, .int .i64 x4, .int .i64 x5, .int .i64 x6, .int .i64 x7, .int .i64 x8, .int .i64 x9, .int .i64 x10, .int .i64 x11, .int .i64 x12, .int .i64 x13, .int .i64 x14]) (.int .i64 0)).run Try.prog w = .ok (.agg #[.int .i64 x0, .int .i64 x1, .int .i64 x2]) w := fun _ _ _ _ _ _ _ _ _ _ _ _ _ _ _ _ => by kernel_rfl
  have i1 : ∀ (x0 x1 x2 x3 x4 x5 x6 x7 x8 x9 x10 x11 x12 x13 x14 : Int) w, (Instr.index 55 (.agg #[.int .i64 x0, .int .i64 x1, .int .i64 x2, .int .i64 x3, .int .i64 x4, .int .i64 x5, .int .i64 x6, .int .i64 x7, .int .i64 x8, .int .i64 x9, .int .i64 x10, .int .i64 x11, .int .i64 x12, .int .i64 x13, .int .i64 x14]) (.int .i64 1)).run Try.prog w = .ok (.agg #[.int .i64 x3, .int .i64 x4, .int .i64 x5]) w := fun _ _ _ _ _ _ _ _ _ _ _ _ _ _ _ _ => by kernel_rfl
  have i2 : ∀ (x0 x1 x2 x3 x4 x5 x6 x7 x8 x9 x10 x11 x12 x13 x14 : Int) w, (Instr.index 55 (.agg #[.int .i64 x0, .int .i64 x1, .int .i64 x2, .int .i64 x3, .int .i64 x4, .int .i64 x5, .int .i64 x6, .int .i64 x7, .int .i64 x8, .int .i64 x9, .int .i64 x10, .int .i64 x11, .int .i64 x12, .int .i64 x13, .int .i64 x14]) (.int .i64 2)).run Try.prog w = .ok (.agg #[.int .i64 x6, .int .i64 x7, .int .i64 x8]) w := fun _ _ _ _ _ _ _ _ _ _ _ _ _ _ _ _ => by kernel_rfl
  have i3 : ∀ (x0 x1 x2 x3 x4 x5 x6 x7 x8 x9 x10 x11 x12 x13 x14 : Int) w, (Instr.index 55 (.agg #[.int .i64 x0, .int .i64 x1, .int .i64 x2, .int .i64 x3, .int .i64 x4, .int .i64 x5, .int .i64 x6, .int .i64 x7, .int .i64 x8, .int .i64 x9, .int .i64 x10, .int .i64 x11, .int .i64 x12, .int .i64 x13, .int .i64 x14]) (.int .i64 3)).run Try.prog w = .ok (.agg #[.int .i64 x9, .int .i64 x10, .int .i64 x11]) w := fun _ _ _ _ _ _ _ _ _ _ _ _ _ _ _ _ => by kernel_rfl
  have i4 : ∀ (x0 x1 x2 x3 x4 x5 x6 x7 x8 x9 x10 x11 x12 x13 x14 : Int) w, (Instr.index 55 (.agg #[.int .i64 x0, .int .i64 x1, .int .i64 x2, .int .i64 x3, .int .i64 x4, .int .i64 x5, .int .i64 x6, .int .i64 x7, .int .i64 x8, .int .i64 x9, .int .i64 x10, .int .i64 x11, .int .i64 x12, .int .i64 x13, .int .i64 x14]) (.int .i64 4)).run Try.prog w = .ok (.agg #[.int .i64 x12, .int .i64 x13, .int .i64 x14]) w := fun _ _ _ _ _ _ _ _ _ _ _ _ _ _ _ _ => by kernel_rfl
  go_enter Try.func10, Try.ntmps10
  go_wp2
  go_rounds 6
  all_goals
    go_ret
    refine ⟨congrArg (fun x => Ending.returned (.bool x)) ?_, by go_grown⟩
    go_light
    unfold goodOf
    first | exact (decide_eq_true (by omega)).symm | exact (decide_eq_false (by omega)).symm

theorem image_Good.c (a0_0 : Int) (a0_1 : Int) (a0_2 : Int) (a0_3 : Int) (a0_4 : Int) (w : World) :
    Calls Try.prog 10 #[.agg #[.int .i64 a0_0, .int .i64 a0_1, .int .i64 a0_2, .int .i64 a0_3, .int .i64 a0_4]] w fun e w' => e = .returned (.bool (goodOf a0_0 a0_1 a0_2 a0_3 a0_4)) ∧ Below w.heap.size w w' := image_Good.calls _ _ _ _ _ _ w rfl



/-! ### image_Lay: function 7 -/
def image_Lay.f (a0_0 : Int) (a0_1 : Int) (a0_2 : Int) (a0_3 : Int) (a0_4 : Int) (a1 : Int) (a2 : Int) : Option (Int × Int × Int × Int × Int × Int × Int × Int × Int) := some (layOf a0_0 a0_1 a0_2 a0_3 a0_4 a1 a2)
set_option maxHeartbeats 4000000 in
theorem image_Lay.calls (a0_0 : Int) (a0_1 : Int) (a0_2 : Int) (a0_3 : Int) (a0_4 : Int) (a1 : Int) (a2 : Int) (r1 : Int) (r2 : Int) (r3 : Int) (r4 : Int) (r5 : Int) (r6 : Int) (r7 : Int) (r8 : Int) (r9 : Int) (w : World) (h : image_Lay.f a0_0 a0_1 a0_2 a0_3 a0_4 a1 a2 = some (r1, r2, r3, r4, r5, r6, r7, r8, r9)) :
    Calls Try.prog 7 #[.agg #[.int .i64 a0_0, .int .i64 a0_1, .int .i64 a0_2, .int .i64 a0_3, .int .i64 a0_4], .int .i64 a1, .int .i64 a2] w fun e w' => e = .returned (.tuple #[.agg #[.int .u64 r1, .int .u64 r2, .int .u64 r3, .int .u64 r4, .int .u64 r5, .int .u64 r6, .int .u64 r7, .int .i64 r8], .int .i64 r9]) ∧ Below w.heap.size w w' := by
  have HL := Lib.hid (Option.some.inj h)
  clear h
  have i0 : ∀ (x0 x1 x2 x3 x4 x5 x6 x7 x8 x9 x10 x11 x12 x13 x14 : Int) w, (Instr.index 55 (.agg #[.int .i64 x0, .int .i64 x1, .int .i64 x2, .int .i64 x3, .int .i64 x4, .int .i64 x5, .int .i64 x6, .int .i64 x7, .int .i64 x8, .int .i64 x9, .int .i64 x10, .int .i64 x11, .int .i64 x12, .int .i64 x13, .int .i64 x14]) (.int .i64 0)).run Try.prog w = .ok (.agg #[.int .i64 x0, .int .i64 x1, .int .i64 x2]) w := fun _ _ _ _ _ _ _ _ _ _ _ _ _ _ _ _ => by kernel_rfl
  have i1 : ∀ (x0 x1 x2 x3 x4 x5 x6 x7 x8 x9 x10 x11 x12 x13 x14 : Int) w, (Instr.index 55 (.agg #[.int .i64 x0, .int .i64 x1, .int .i64 x2, .int .i64 x3, .int .i64 x4, .int .i64 x5, .int .i64 x6, .int .i64 x7, .int .i64 x8, .int .i64 x9, .int .i64 x10, .int .i64 x11, .int .i64 x12, .int .i64 x13, .int .i64 x14]) (.int .i64 1)).run Try.prog w = .ok (.agg #[.int .i64 x3, .int .i64 x4, .int .i64 x5]) w := fun _ _ _ _ _ _ _ _ _ _ _ _ _ _ _ _ => by kernel_rfl
  have i2 : ∀ (x0 x1 x2 x3 x4 x5 x6 x7 x8 x9 x10 x11 x12 x13 x14 : Int) w, (Instr.index 55 (.agg #[.int .i64 x0, .int .i64 x1, .int .i64 x2, .int .i64 x3, .int .i64 x4, .int .i64 x5, .int .i64 x6, .int .i64 x7, .int .i64 x8, .int .i64 x9, .int .i64 x10, .int .i64 x11, .int .i64 x12, .int .i64 x13, .int .i64 x14]) (.int .i64 2)).run Try.prog w = .ok (.agg #[.int .i64 x6, .int .i64 x7, .int .i64 x8]) w := fun _ _ _ _ _ _ _ _ _ _ _ _ _ _ _ _ => by kernel_rfl
  have i3 : ∀ (x0 x1 x2 x3 x4 x5 x6 x7 x8 x9 x10 x11 x12 x13 x14 : Int) w, (Instr.index 55 (.agg #[.int .i64 x0, .int .i64 x1, .int .i64 x2, .int .i64 x3, .int .i64 x4, .int .i64 x5, .int .i64 x6, .int .i64 x7, .int .i64 x8, .int .i64 x9, .int .i64 x10, .int .i64 x11, .int .i64 x12, .int .i64 x13, .int .i64 x14]) (.int .i64 3)).run Try.prog w = .ok (.agg #[.int .i64 x9, .int .i64 x10, .int .i64 x11]) w := fun _ _ _ _ _ _ _ _ _ _ _ _ _ _ _ _ => by kernel_rfl
  have i4 : ∀ (x0 x1 x2 x3 x4 x5 x6 x7 x8 x9 x10 x11 x12 x13 x14 : Int) w, (Instr.index 55 (.agg #[.int .i64 x0, .int .i64 x1, .int .i64 x2, .int .i64 x3, .int .i64 x4, .int .i64 x5, .int .i64 x6, .int .i64 x7, .int .i64 x8, .int .i64 x9, .int .i64 x10, .int .i64 x11, .int .i64 x12, .int .i64 x13, .int .i64 x14]) (.int .i64 4)).run Try.prog w = .ok (.agg #[.int .i64 x12, .int .i64 x13, .int .i64 x14]) w := fun _ _ _ _ _ _ _ _ _ _ _ _ _ _ _ _ => by kernel_rfl
  by_cases hg : goodOf a0_0 a0_1 a0_2 a0_3 a0_4 = true ∧ 0 ≤ a1 ∧ a1 ≤ 65536 ∧ 1 ≤ a2 ∧ a2 ≤ 256
  · obtain ⟨g, v1, v2, v3, v4⟩ := hg
    obtain ⟨⟨p1, p2⟩, ⟨g1, g2⟩, ⟨g3, g4⟩, ⟨g5, g6⟩, ⟨p3, p4⟩⟩ := goodOf_yes g
    have HG := Lib.hid g
    clear g
    go_enter Try.func7, Try.ntmps7
    go_wp2
    go_rounds 6
    all_goals
      go_returns
      refine ⟨?_, by go_grown⟩
      go_light
      clear i0 i1 i2 i3 i4
    · have hbig : 16777216 < IntKind.u64.wrap (IntKind.u64.wrap ((4 * a1 + 64 - 1) / 64 * 64 + 64 + IntKind.u64.wrap (a0_1 * (8 * (12 + a2 + 2 * a0_3)))) + a0_2 * 256) := by assumption
      rw [lay_w2 _ _ _ _ _ g1 g2 g3 g4 g5 g6 v1 v2 v3 v4] at hbig
      obtain ⟨rfl, rfl, rfl, rfl, rfl, rfl, rfl, rfl, rfl⟩ := lay_big HG.out v1 v2 v3 v4 hbig HL.out
      rfl
    · have hfit : IntKind.u64.wrap (IntKind.u64.wrap ((4 * a1 + 64 - 1) / 64 * 64 + 64 + IntKind.u64.wrap (a0_1 * (8 * (12 + a2 + 2 * a0_3)))) + a0_2 * 256) ≤ 16777216 := by assumption
      rw [lay_w2 _ _ _ _ _ g1 g2 g3 g4 g5 g6 v1 v2 v3 v4] at hfit ⊢
      rw [lay_w1 _ _ _ _ g1 g2 g5 g6 v1 v2 v3 v4]
      obtain ⟨rfl, rfl, rfl, rfl, rfl, rfl, rfl, rfl, rfl⟩ := lay_fit HG.out v1 v2 v3 v4 hfit HL.out
      rfl
  · have HG := Lib.hid hg
    clear hg
    go_enter Try.func7, Try.ntmps7
    go_wp2
    go_rounds 6
    all_goals go_light
    all_goals clear i0 i1 i2 i3 i4
    all_goals first | (exfalso; exact HG.out ⟨decide_eq_true (by omega), by omega, by omega, by omega, by omega⟩) | (go_returns; refine ⟨?_, by go_grown⟩; obtain ⟨rfl, rfl, rfl, rfl, rfl, rfl, rfl, rfl, rfl⟩ := lay_bad HG.out HL.out; rfl)

theorem image_Lay.c (a0_0 : Int) (a0_1 : Int) (a0_2 : Int) (a0_3 : Int) (a0_4 : Int) (a1 : Int) (a2 : Int) (r1 : Int) (r2 : Int) (r3 : Int) (r4 : Int) (r5 : Int) (r6 : Int) (r7 : Int) (r8 : Int) (r9 : Int) (w : World) (h : layOf a0_0 a0_1 a0_2 a0_3 a0_4 a1 a2 = (r1, r2, r3, r4, r5, r6, r7, r8, r9)) :
    Calls Try.prog 7 #[.agg #[.int .i64 a0_0, .int .i64 a0_1, .int .i64 a0_2, .int .i64 a0_3, .int .i64 a0_4], .int .i64 a1, .int .i64 a2] w fun e w' => e = .returned (.tuple #[.agg #[.int .u64 r1, .int .u64 r2, .int .u64 r3, .int .u64 r4, .int .u64 r5, .int .u64 r6, .int .u64 r7, .int .i64 r8], .int .i64 r9]) ∧ Below w.heap.size w w' := image_Lay.calls _ _ _ _ _ _ _ _ _ _ _ _ _ _ _ _ w (congrArg some h)



/-! ### postbaglaw20_lives0: function 8 -/
def postbaglaw20_lives0.f  : Option (Bool) := (image_Lay.f 1 2 3 8 1 10 4).bind fun bt101 => (if bt101.2.2.2.2.2.2.2.2 = 0 then (if bt101.2.1 = 64 then (if bt101.2.2.1 = 128 then (if bt101.2.2.2.1 = 256 then (if bt101.2.2.2.2.1 = 640 then (some (bt101.2.2.2.2.2.2.1 == 1408)) else (some false)) else (some false)) else (some false)) else (some false)) else (some false))
set_option maxHeartbeats 8000000 in
set_option maxRecDepth 100000 in
theorem postbaglaw20_lives0.calls  (r : Bool) (w : World) (h : postbaglaw20_lives0.f  = some r) :
    Calls Try.prog 8 #[] w fun e w' => e = .returned (.bool r) ∧ Below w.heap.size w w' := by
  have hu23 := Try.underlying23
  have hu26 := Try.underlying26
  have HB := Aside0.mk (Below.refl w.heap.size w)
  have H : ((image_Lay.f 1 2 3 8 1 10 4).bind fun bt101 => (if bt101.2.2.2.2.2.2.2.2 = 0 then (if bt101.2.1 = 64 then (if bt101.2.2.1 = 128 then (if bt101.2.2.2.1 = 256 then (if bt101.2.2.2.2.1 = 640 then (some (bt101.2.2.2.2.2.2.1 == 1408)) else (some false)) else (some false)) else (some false)) else (some false)) else (some false))) = some r := h
  clear h
  replace H := Option.bind_eq_some_iff.mp H
  obtain ⟨⟨t101, t102, t103, t104, t105, t106, t107, t108, t109⟩, A10, H⟩ := H
  replace H : (if t109 = 0 then (if t102 = 64 then (if t103 = 128 then (if t104 = 256 then (if t105 = 640 then (some (t107 == 1408)) else (some false)) else (some false)) else (some false)) else (some false)) else (some false)) = some r := H
  have A1 := Aside0.mk A10
  clear A10
  by_cases c2 : t109 = 0
  · rw [if_pos c2] at H
    have c2b0 : (t109 == 0) = true := beq_iff_eq.mpr c2
    have c2b1 : (t109 != 0) = false := bne_eq_false_iff_eq.mpr c2
    clear c2
    by_cases c3 : t102 = 64
    · rw [if_pos c3] at H
      have c3b0 : (t102 == 64) = true := beq_iff_eq.mpr c3
      have c3b1 : (t102 != 64) = false := bne_eq_false_iff_eq.mpr c3
      clear c3
      by_cases c4 : t103 = 128
      · rw [if_pos c4] at H
        have c4b0 : (t103 == 128) = true := beq_iff_eq.mpr c4
        have c4b1 : (t103 != 128) = false := bne_eq_false_iff_eq.mpr c4
        clear c4
        by_cases c5 : t104 = 256
        · rw [if_pos c5] at H
          have c5b0 : (t104 == 256) = true := beq_iff_eq.mpr c5
          have c5b1 : (t104 != 256) = false := bne_eq_false_iff_eq.mpr c5
          clear c5
          by_cases c6 : t105 = 640
          · rw [if_pos c6] at H
            have c6b0 : (t105 == 640) = true := beq_iff_eq.mpr c6
            have c6b1 : (t105 != 640) = false := bne_eq_false_iff_eq.mpr c6
            clear c6
            obtain rfl := Option.some.inj H
            go_enter Try.func8, Try.ntmps8
            go_wp2_with (first | ((with_reducible refine gate_callee (f := 7) rfl ?_); refine goesL_ (some 5) rfl rfl Try.func7 (by kernel_rfl) rfl #[.agg #[.int .i64 1, .int .i64 2, .int .i64 3, .int .i64 8, .int .i64 1], .int .i64 10, .int .i64 4] rfl (by (try simp only [List.map_toArray, List.map_cons, List.map_nil]); first | done | rfl | (simp only [List.length_drop, List.length_take]; rfl)) ?_; (with_reducible refine (image_Lay.calls 1 2 3 8 1 10 4 t101 t102 t103 t104 t105 t106 t107 t108 t109 _ A1.out).mono ?_); rintro e w7 ⟨rfl, hb⟩; refine ⟨_, rfl, ?_⟩; have n0_ := Aside0.mk (below_step (by repeat (first | (with_reducible first | exact HB.out | apply below_alloc | apply pw_below_drewN | apply below_drew1) | exact HB.out)) hb); clear HB; have HB := n0_; clear n0_; (try clear hb); (try clear hb2); (try clear hk); (try clear hi)) | ((with_reducible refine gate_dst (N := 1) rfl ?_); refine box_event ?hg (N := 1) ?hd (cs := #[.int .u64 0, .int .u64 0, .int .u64 0, .int .u64 0, .int .u64 0, .int .u64 0, .int .u64 0, .int .i64 0]) (t := 26) ?hr ?_; (case hd => rfl); (case hg => rfl); (case hr => first | (go_simp; done) | (go_simp; rfl)); intro gb110 hg w8 hbox hb; have n0_ := Aside0.mk (below_step (by repeat (first | (with_reducible first | exact HB.out | apply below_alloc | apply pw_below_drewN | apply below_drew1) | exact HB.out)) hb); have n1_ := Aside0.mk (hbox); have n2_ := Aside0.mk ((by rw [hg]; exact (below_size (by repeat (first | (with_reducible first | exact HB.out | apply below_alloc | apply pw_below_drewN | apply below_drew1) | exact HB.out))) : w.heap.size ≤ gb110)); have n3_ := Aside0.mk ((by rw [hg]; exact (below_size (by repeat (first | (with_reducible first | exact HB.out | apply below_alloc | apply pw_below_drewN | apply below_drew1) | exact HB.out))) : w.heap.size ≤ gb110)); clear HB; have HB := n0_; have BK110 := n1_; have GW110 := n2_; have GE110 := n3_; clear n0_ n1_ n2_ n3_; clear hb hbox hg; have hcz9_0 : w8.cell? ⟨gb110, 0, none⟩ = some (.int .u64 0) := (blk_cell BK110.out 0).trans rfl; have hcz9_1 : w8.cell? ⟨gb110, 1, none⟩ = some (.int .u64 0) := (blk_cell BK110.out 1).trans rfl; have hcz9_2 : w8.cell? ⟨gb110, 2, none⟩ = some (.int .u64 0) := (blk_cell BK110.out 2).trans rfl; have hcz9_3 : w8.cell? ⟨gb110, 3, none⟩ = some (.int .u64 0) := (blk_cell BK110.out 3).trans rfl; have hcz9_4 : w8.cell? ⟨gb110, 4, none⟩ = some (.int .u64 0) := (blk_cell BK110.out 4).trans rfl; have hcz9_5 : w8.cell? ⟨gb110, 5, none⟩ = some (.int .u64 0) := (blk_cell BK110.out 5).trans rfl; have hcz9_6 : w8.cell? ⟨gb110, 6, none⟩ = some (.int .u64 0) := (blk_cell BK110.out 6).trans rfl; have hcz9_7 : w8.cell? ⟨gb110, 7, none⟩ = some (.int .i64 0) := (blk_cell BK110.out 7).trans rfl; have hfz9_0 := blk_frozen BK110.out 0; have hfz9_1 := blk_frozen BK110.out 1; have hfz9_2 := blk_frozen BK110.out 2; have hfz9_3 := blk_frozen BK110.out 3; have hfz9_4 := blk_frozen BK110.out 4; have hfz9_5 := blk_frozen BK110.out 5; have hfz9_6 := blk_frozen BK110.out 6; have hfz9_7 := blk_frozen BK110.out 7))
            go_ret
            exact ⟨by first | rfl | (simp [errW_none, errW_some] <;> rfl) | (simp [*, errW_none, errW_some] <;> rfl), by repeat (first | (with_reducible first | exact HB.out | apply below_alloc | apply pw_below_drewN | apply below_drew1 | refine below_set ?_ GE110.out) | exact HB.out)⟩
          · rw [if_neg c6] at H
            have c6b0 : (t105 == 640) = false := beq_eq_false_iff_ne.mpr c6
            have c6b1 : (t105 != 640) = true := bne_iff_ne.mpr c6
            obtain rfl := Option.some.inj H
            go_enter Try.func8, Try.ntmps8
            go_wp2_with (first | ((with_reducible refine gate_callee (f := 7) rfl ?_); refine goesL_ (some 5) rfl rfl Try.func7 (by kernel_rfl) rfl #[.agg #[.int .i64 1, .int .i64 2, .int .i64 3, .int .i64 8, .int .i64 1], .int .i64 10, .int .i64 4] rfl (by (try simp only [List.map_toArray, List.map_cons, List.map_nil]); first | done | rfl | (simp only [List.length_drop, List.length_take]; rfl)) ?_; (with_reducible refine (image_Lay.calls 1 2 3 8 1 10 4 t101 t102 t103 t104 t105 t106 t107 t108 t109 _ A1.out).mono ?_); rintro e w10 ⟨rfl, hb⟩; refine ⟨_, rfl, ?_⟩; have n0_ := Aside0.mk (below_step (by repeat (first | (with_reducible first | exact HB.out | apply below_alloc | apply pw_below_drewN | apply below_drew1) | exact HB.out)) hb); clear HB; have HB := n0_; clear n0_; (try clear hb); (try clear hb2); (try clear hk); (try clear hi)) | ((with_reducible refine gate_dst (N := 1) rfl ?_); refine box_event ?hg (N := 1) ?hd (cs := #[.int .u64 0, .int .u64 0, .int .u64 0, .int .u64 0, .int .u64 0, .int .u64 0, .int .u64 0, .int .i64 0]) (t := 26) ?hr ?_; (case hd => rfl); (case hg => rfl); (case hr => first | (go_simp; done) | (go_simp; rfl)); intro gb110 hg w11 hbox hb; have n0_ := Aside0.mk (below_step (by repeat (first | (with_reducible first | exact HB.out | apply below_alloc | apply pw_below_drewN | apply below_drew1) | exact HB.out)) hb); have n1_ := Aside0.mk (hbox); have n2_ := Aside0.mk ((by rw [hg]; exact (below_size (by repeat (first | (with_reducible first | exact HB.out | apply below_alloc | apply pw_below_drewN | apply below_drew1) | exact HB.out))) : w.heap.size ≤ gb110)); have n3_ := Aside0.mk ((by rw [hg]; exact (below_size (by repeat (first | (with_reducible first | exact HB.out | apply below_alloc | apply pw_below_drewN | apply below_drew1) | exact HB.out))) : w.heap.size ≤ gb110)); clear HB; have HB := n0_; have BK110 := n1_; have GW110 := n2_; have GE110 := n3_; clear n0_ n1_ n2_ n3_; clear hb hbox hg; have hcz12_0 : w11.cell? ⟨gb110, 0, none⟩ = some (.int .u64 0) := (blk_cell BK110.out 0).trans rfl; have hcz12_1 : w11.cell? ⟨gb110, 1, none⟩ = some (.int .u64 0) := (blk_cell BK110.out 1).trans rfl; have hcz12_2 : w11.cell? ⟨gb110, 2, none⟩ = some (.int .u64 0) := (blk_cell BK110.out 2).trans rfl; have hcz12_3 : w11.cell? ⟨gb110, 3, none⟩ = some (.int .u64 0) := (blk_cell BK110.out 3).trans rfl; have hcz12_4 : w11.cell? ⟨gb110, 4, none⟩ = some (.int .u64 0) := (blk_cell BK110.out 4).trans rfl; have hcz12_5 : w11.cell? ⟨gb110, 5, none⟩ = some (.int .u64 0) := (blk_cell BK110.out 5).trans rfl; have hcz12_6 : w11.cell? ⟨gb110, 6, none⟩ = some (.int .u64 0) := (blk_cell BK110.out 6).trans rfl; have hcz12_7 : w11.cell? ⟨gb110, 7, none⟩ = some (.int .i64 0) := (blk_cell BK110.out 7).trans rfl; have hfz12_0 := blk_frozen BK110.out 0; have hfz12_1 := blk_frozen BK110.out 1; have hfz12_2 := blk_frozen BK110.out 2; have hfz12_3 := blk_frozen BK110.out 3; have hfz12_4 := blk_frozen BK110.out 4; have hfz12_5 := blk_frozen BK110.out 5; have hfz12_6 := blk_frozen BK110.out 6; have hfz12_7 := blk_frozen BK110.out 7))
            go_ret
            exact ⟨by first | rfl | (simp [errW_none, errW_some] <;> rfl) | (simp [*, errW_none, errW_some] <;> rfl), by repeat (first | (with_reducible first | exact HB.out | apply below_alloc | apply pw_below_drewN | apply below_drew1 | refine below_set ?_ GE110.out) | exact HB.out)⟩
        · rw [if_neg c5] at H
          have c5b0 : (t104 == 256) = false := beq_eq_false_iff_ne.mpr c5
          have c5b1 : (t104 != 256) = true := bne_iff_ne.mpr c5
          obtain rfl := Option.some.inj H
          go_enter Try.func8, Try.ntmps8
          go_wp2_with (first | ((with_reducible refine gate_callee (f := 7) rfl ?_); refine goesL_ (some 5) rfl rfl Try.func7 (by kernel_rfl) rfl #[.agg #[.int .i64 1, .int .i64 2, .int .i64 3, .int .i64 8, .int .i64 1], .int .i64 10, .int .i64 4] rfl (by (try simp only [List.map_toArray, List.map_cons, List.map_nil]); first | done | rfl | (simp only [List.length_drop, List.length_take]; rfl)) ?_; (with_reducible refine (image_Lay.calls 1 2 3 8 1 10 4 t101 t102 t103 t104 t105 t106 t107 t108 t109 _ A1.out).mono ?_); rintro e w13 ⟨rfl, hb⟩; refine ⟨_, rfl, ?_⟩; have n0_ := Aside0.mk (below_step (by repeat (first | (with_reducible first | exact HB.out | apply below_alloc | apply pw_below_drewN | apply below_drew1) | exact HB.out)) hb); clear HB; have HB := n0_; clear n0_; (try clear hb); (try clear hb2); (try clear hk); (try clear hi)) | ((with_reducible refine gate_dst (N := 1) rfl ?_); refine box_event ?hg (N := 1) ?hd (cs := #[.int .u64 0, .int .u64 0, .int .u64 0, .int .u64 0, .int .u64 0, .int .u64 0, .int .u64 0, .int .i64 0]) (t := 26) ?hr ?_; (case hd => rfl); (case hg => rfl); (case hr => first | (go_simp; done) | (go_simp; rfl)); intro gb110 hg w14 hbox hb; have n0_ := Aside0.mk (below_step (by repeat (first | (with_reducible first | exact HB.out | apply below_alloc | apply pw_below_drewN | apply below_drew1) | exact HB.out)) hb); have n1_ := Aside0.mk (hbox); have n2_ := Aside0.mk ((by rw [hg]; exact (below_size (by repeat (first | (with_reducible first | exact HB.out | apply below_alloc | apply pw_below_drewN | apply below_drew1) | exact HB.out))) : w.heap.size ≤ gb110)); have n3_ := Aside0.mk ((by rw [hg]; exact (below_size (by repeat (first | (with_reducible first | exact HB.out | apply below_alloc | apply pw_below_drewN | apply below_drew1) | exact HB.out))) : w.heap.size ≤ gb110)); clear HB; have HB := n0_; have BK110 := n1_; have GW110 := n2_; have GE110 := n3_; clear n0_ n1_ n2_ n3_; clear hb hbox hg; have hcz15_0 : w14.cell? ⟨gb110, 0, none⟩ = some (.int .u64 0) := (blk_cell BK110.out 0).trans rfl; have hcz15_1 : w14.cell? ⟨gb110, 1, none⟩ = some (.int .u64 0) := (blk_cell BK110.out 1).trans rfl; have hcz15_2 : w14.cell? ⟨gb110, 2, none⟩ = some (.int .u64 0) := (blk_cell BK110.out 2).trans rfl; have hcz15_3 : w14.cell? ⟨gb110, 3, none⟩ = some (.int .u64 0) := (blk_cell BK110.out 3).trans rfl; have hcz15_4 : w14.cell? ⟨gb110, 4, none⟩ = some (.int .u64 0) := (blk_cell BK110.out 4).trans rfl; have hcz15_5 : w14.cell? ⟨gb110, 5, none⟩ = some (.int .u64 0) := (blk_cell BK110.out 5).trans rfl; have hcz15_6 : w14.cell? ⟨gb110, 6, none⟩ = some (.int .u64 0) := (blk_cell BK110.out 6).trans rfl; have hcz15_7 : w14.cell? ⟨gb110, 7, none⟩ = some (.int .i64 0) := (blk_cell BK110.out 7).trans rfl; have hfz15_0 := blk_frozen BK110.out 0; have hfz15_1 := blk_frozen BK110.out 1; have hfz15_2 := blk_frozen BK110.out 2; have hfz15_3 := blk_frozen BK110.out 3; have hfz15_4 := blk_frozen BK110.out 4; have hfz15_5 := blk_frozen BK110.out 5; have hfz15_6 := blk_frozen BK110.out 6; have hfz15_7 := blk_frozen BK110.out 7))
          go_ret
          exact ⟨by first | rfl | (simp [errW_none, errW_some] <;> rfl) | (simp [*, errW_none, errW_some] <;> rfl), by repeat (first | (with_reducible first | exact HB.out | apply below_alloc | apply pw_below_drewN | apply below_drew1 | refine below_set ?_ GE110.out) | exact HB.out)⟩
      · rw [if_neg c4] at H
        have c4b0 : (t103 == 128) = false := beq_eq_false_iff_ne.mpr c4
        have c4b1 : (t103 != 128) = true := bne_iff_ne.mpr c4
        obtain rfl := Option.some.inj H
        go_enter Try.func8, Try.ntmps8
        go_wp2_with (first | ((with_reducible refine gate_callee (f := 7) rfl ?_); refine goesL_ (some 5) rfl rfl Try.func7 (by kernel_rfl) rfl #[.agg #[.int .i64 1, .int .i64 2, .int .i64 3, .int .i64 8, .int .i64 1], .int .i64 10, .int .i64 4] rfl (by (try simp only [List.map_toArray, List.map_cons, List.map_nil]); first | done | rfl | (simp only [List.length_drop, List.length_take]; rfl)) ?_; (with_reducible refine (image_Lay.calls 1 2 3 8 1 10 4 t101 t102 t103 t104 t105 t106 t107 t108 t109 _ A1.out).mono ?_); rintro e w16 ⟨rfl, hb⟩; refine ⟨_, rfl, ?_⟩; have n0_ := Aside0.mk (below_step (by repeat (first | (with_reducible first | exact HB.out | apply below_alloc | apply pw_below_drewN | apply below_drew1) | exact HB.out)) hb); clear HB; have HB := n0_; clear n0_; (try clear hb); (try clear hb2); (try clear hk); (try clear hi)) | ((with_reducible refine gate_dst (N := 1) rfl ?_); refine box_event ?hg (N := 1) ?hd (cs := #[.int .u64 0, .int .u64 0, .int .u64 0, .int .u64 0, .int .u64 0, .int .u64 0, .int .u64 0, .int .i64 0]) (t := 26) ?hr ?_; (case hd => rfl); (case hg => rfl); (case hr => first | (go_simp; done) | (go_simp; rfl)); intro gb110 hg w17 hbox hb; have n0_ := Aside0.mk (below_step (by repeat (first | (with_reducible first | exact HB.out | apply below_alloc | apply pw_below_drewN | apply below_drew1) | exact HB.out)) hb); have n1_ := Aside0.mk (hbox); have n2_ := Aside0.mk ((by rw [hg]; exact (below_size (by repeat (first | (with_reducible first | exact HB.out | apply below_alloc | apply pw_below_drewN | apply below_drew1) | exact HB.out))) : w.heap.size ≤ gb110)); have n3_ := Aside0.mk ((by rw [hg]; exact (below_size (by repeat (first | (with_reducible first | exact HB.out | apply below_alloc | apply pw_below_drewN | apply below_drew1) | exact HB.out))) : w.heap.size ≤ gb110)); clear HB; have HB := n0_; have BK110 := n1_; have GW110 := n2_; have GE110 := n3_; clear n0_ n1_ n2_ n3_; clear hb hbox hg; have hcz18_0 : w17.cell? ⟨gb110, 0, none⟩ = some (.int .u64 0) := (blk_cell BK110.out 0).trans rfl; have hcz18_1 : w17.cell? ⟨gb110, 1, none⟩ = some (.int .u64 0) := (blk_cell BK110.out 1).trans rfl; have hcz18_2 : w17.cell? ⟨gb110, 2, none⟩ = some (.int .u64 0) := (blk_cell BK110.out 2).trans rfl; have hcz18_3 : w17.cell? ⟨gb110, 3, none⟩ = some (.int .u64 0) := (blk_cell BK110.out 3).trans rfl; have hcz18_4 : w17.cell? ⟨gb110, 4, none⟩ = some (.int .u64 0) := (blk_cell BK110.out 4).trans rfl; have hcz18_5 : w17.cell? ⟨gb110, 5, none⟩ = some (.int .u64 0) := (blk_cell BK110.out 5).trans rfl; have hcz18_6 : w17.cell? ⟨gb110, 6, none⟩ = some (.int .u64 0) := (blk_cell BK110.out 6).trans rfl; have hcz18_7 : w17.cell? ⟨gb110, 7, none⟩ = some (.int .i64 0) := (blk_cell BK110.out 7).trans rfl; have hfz18_0 := blk_frozen BK110.out 0; have hfz18_1 := blk_frozen BK110.out 1; have hfz18_2 := blk_frozen BK110.out 2; have hfz18_3 := blk_frozen BK110.out 3; have hfz18_4 := blk_frozen BK110.out 4; have hfz18_5 := blk_frozen BK110.out 5; have hfz18_6 := blk_frozen BK110.out 6; have hfz18_7 := blk_frozen BK110.out 7))
        go_ret
        exact ⟨by first | rfl | (simp [errW_none, errW_some] <;> rfl) | (simp [*, errW_none, errW_some] <;> rfl), by repeat (first | (with_reducible first | exact HB.out | apply below_alloc | apply pw_below_drewN | apply below_drew1 | refine below_set ?_ GE110.out) | exact HB.out)⟩
    · rw [if_neg c3] at H
      have c3b0 : (t102 == 64) = false := beq_eq_false_iff_ne.mpr c3
      have c3b1 : (t102 != 64) = true := bne_iff_ne.mpr c3
      obtain rfl := Option.some.inj H
      go_enter Try.func8, Try.ntmps8
      go_wp2_with (first | ((with_reducible refine gate_callee (f := 7) rfl ?_); refine goesL_ (some 5) rfl rfl Try.func7 (by kernel_rfl) rfl #[.agg #[.int .i64 1, .int .i64 2, .int .i64 3, .int .i64 8, .int .i64 1], .int .i64 10, .int .i64 4] rfl (by (try simp only [List.map_toArray, List.map_cons, List.map_nil]); first | done | rfl | (simp only [List.length_drop, List.length_take]; rfl)) ?_; (with_reducible refine (image_Lay.calls 1 2 3 8 1 10 4 t101 t102 t103 t104 t105 t106 t107 t108 t109 _ A1.out).mono ?_); rintro e w19 ⟨rfl, hb⟩; refine ⟨_, rfl, ?_⟩; have n0_ := Aside0.mk (below_step (by repeat (first | (with_reducible first | exact HB.out | apply below_alloc | apply pw_below_drewN | apply below_drew1) | exact HB.out)) hb); clear HB; have HB := n0_; clear n0_; (try clear hb); (try clear hb2); (try clear hk); (try clear hi)) | ((with_reducible refine gate_dst (N := 1) rfl ?_); refine box_event ?hg (N := 1) ?hd (cs := #[.int .u64 0, .int .u64 0, .int .u64 0, .int .u64 0, .int .u64 0, .int .u64 0, .int .u64 0, .int .i64 0]) (t := 26) ?hr ?_; (case hd => rfl); (case hg => rfl); (case hr => first | (go_simp; done) | (go_simp; rfl)); intro gb110 hg w20 hbox hb; have n0_ := Aside0.mk (below_step (by repeat (first | (with_reducible first | exact HB.out | apply below_alloc | apply pw_below_drewN | apply below_drew1) | exact HB.out)) hb); have n1_ := Aside0.mk (hbox); have n2_ := Aside0.mk ((by rw [hg]; exact (below_size (by repeat (first | (with_reducible first | exact HB.out | apply below_alloc | apply pw_below_drewN | apply below_drew1) | exact HB.out))) : w.heap.size ≤ gb110)); have n3_ := Aside0.mk ((by rw [hg]; exact (below_size (by repeat (first | (with_reducible first | exact HB.out | apply below_alloc | apply pw_below_drewN | apply below_drew1) | exact HB.out))) : w.heap.size ≤ gb110)); clear HB; have HB := n0_; have BK110 := n1_; have GW110 := n2_; have GE110 := n3_; clear n0_ n1_ n2_ n3_; clear hb hbox hg; have hcz21_0 : w20.cell? ⟨gb110, 0, none⟩ = some (.int .u64 0) := (blk_cell BK110.out 0).trans rfl; have hcz21_1 : w20.cell? ⟨gb110, 1, none⟩ = some (.int .u64 0) := (blk_cell BK110.out 1).trans rfl; have hcz21_2 : w20.cell? ⟨gb110, 2, none⟩ = some (.int .u64 0) := (blk_cell BK110.out 2).trans rfl; have hcz21_3 : w20.cell? ⟨gb110, 3, none⟩ = some (.int .u64 0) := (blk_cell BK110.out 3).trans rfl; have hcz21_4 : w20.cell? ⟨gb110, 4, none⟩ = some (.int .u64 0) := (blk_cell BK110.out 4).trans rfl; have hcz21_5 : w20.cell? ⟨gb110, 5, none⟩ = some (.int .u64 0) := (blk_cell BK110.out 5).trans rfl; have hcz21_6 : w20.cell? ⟨gb110, 6, none⟩ = some (.int .u64 0) := (blk_cell BK110.out 6).trans rfl; have hcz21_7 : w20.cell? ⟨gb110, 7, none⟩ = some (.int .i64 0) := (blk_cell BK110.out 7).trans rfl; have hfz21_0 := blk_frozen BK110.out 0; have hfz21_1 := blk_frozen BK110.out 1; have hfz21_2 := blk_frozen BK110.out 2; have hfz21_3 := blk_frozen BK110.out 3; have hfz21_4 := blk_frozen BK110.out 4; have hfz21_5 := blk_frozen BK110.out 5; have hfz21_6 := blk_frozen BK110.out 6; have hfz21_7 := blk_frozen BK110.out 7))
      go_ret
      exact ⟨by first | rfl | (simp [errW_none, errW_some] <;> rfl) | (simp [*, errW_none, errW_some] <;> rfl), by repeat (first | (with_reducible first | exact HB.out | apply below_alloc | apply pw_below_drewN | apply below_drew1 | refine below_set ?_ GE110.out) | exact HB.out)⟩
  · rw [if_neg c2] at H
    have c2b0 : (t109 == 0) = false := beq_eq_false_iff_ne.mpr c2
    have c2b1 : (t109 != 0) = true := bne_iff_ne.mpr c2
    obtain rfl := Option.some.inj H
    go_enter Try.func8, Try.ntmps8
    go_wp2_with (first | ((with_reducible refine gate_callee (f := 7) rfl ?_); refine goesL_ (some 5) rfl rfl Try.func7 (by kernel_rfl) rfl #[.agg #[.int .i64 1, .int .i64 2, .int .i64 3, .int .i64 8, .int .i64 1], .int .i64 10, .int .i64 4] rfl (by (try simp only [List.map_toArray, List.map_cons, List.map_nil]); first | done | rfl | (simp only [List.length_drop, List.length_take]; rfl)) ?_; (with_reducible refine (image_Lay.calls 1 2 3 8 1 10 4 t101 t102 t103 t104 t105 t106 t107 t108 t109 _ A1.out).mono ?_); rintro e w22 ⟨rfl, hb⟩; refine ⟨_, rfl, ?_⟩; have n0_ := Aside0.mk (below_step (by repeat (first | (with_reducible first | exact HB.out | apply below_alloc | apply pw_below_drewN | apply below_drew1) | exact HB.out)) hb); clear HB; have HB := n0_; clear n0_; (try clear hb); (try clear hb2); (try clear hk); (try clear hi)) | ((with_reducible refine gate_dst (N := 1) rfl ?_); refine box_event ?hg (N := 1) ?hd (cs := #[.int .u64 0, .int .u64 0, .int .u64 0, .int .u64 0, .int .u64 0, .int .u64 0, .int .u64 0, .int .i64 0]) (t := 26) ?hr ?_; (case hd => rfl); (case hg => rfl); (case hr => first | (go_simp; done) | (go_simp; rfl)); intro gb110 hg w23 hbox hb; have n0_ := Aside0.mk (below_step (by repeat (first | (with_reducible first | exact HB.out | apply below_alloc | apply pw_below_drewN | apply below_drew1) | exact HB.out)) hb); have n1_ := Aside0.mk (hbox); have n2_ := Aside0.mk ((by rw [hg]; exact (below_size (by repeat (first | (with_reducible first | exact HB.out | apply below_alloc | apply pw_below_drewN | apply below_drew1) | exact HB.out))) : w.heap.size ≤ gb110)); have n3_ := Aside0.mk ((by rw [hg]; exact (below_size (by repeat (first | (with_reducible first | exact HB.out | apply below_alloc | apply pw_below_drewN | apply below_drew1) | exact HB.out))) : w.heap.size ≤ gb110)); clear HB; have HB := n0_; have BK110 := n1_; have GW110 := n2_; have GE110 := n3_; clear n0_ n1_ n2_ n3_; clear hb hbox hg; have hcz24_0 : w23.cell? ⟨gb110, 0, none⟩ = some (.int .u64 0) := (blk_cell BK110.out 0).trans rfl; have hcz24_1 : w23.cell? ⟨gb110, 1, none⟩ = some (.int .u64 0) := (blk_cell BK110.out 1).trans rfl; have hcz24_2 : w23.cell? ⟨gb110, 2, none⟩ = some (.int .u64 0) := (blk_cell BK110.out 2).trans rfl; have hcz24_3 : w23.cell? ⟨gb110, 3, none⟩ = some (.int .u64 0) := (blk_cell BK110.out 3).trans rfl; have hcz24_4 : w23.cell? ⟨gb110, 4, none⟩ = some (.int .u64 0) := (blk_cell BK110.out 4).trans rfl; have hcz24_5 : w23.cell? ⟨gb110, 5, none⟩ = some (.int .u64 0) := (blk_cell BK110.out 5).trans rfl; have hcz24_6 : w23.cell? ⟨gb110, 6, none⟩ = some (.int .u64 0) := (blk_cell BK110.out 6).trans rfl; have hcz24_7 : w23.cell? ⟨gb110, 7, none⟩ = some (.int .i64 0) := (blk_cell BK110.out 7).trans rfl; have hfz24_0 := blk_frozen BK110.out 0; have hfz24_1 := blk_frozen BK110.out 1; have hfz24_2 := blk_frozen BK110.out 2; have hfz24_3 := blk_frozen BK110.out 3; have hfz24_4 := blk_frozen BK110.out 4; have hfz24_5 := blk_frozen BK110.out 5; have hfz24_6 := blk_frozen BK110.out 6; have hfz24_7 := blk_frozen BK110.out 7))
    go_ret
    exact ⟨by first | rfl | (simp [errW_none, errW_some] <;> rfl) | (simp [*, errW_none, errW_some] <;> rfl), by repeat (first | (with_reducible first | exact HB.out | apply below_alloc | apply pw_below_drewN | apply below_drew1 | refine below_set ?_ GE110.out) | exact HB.out)⟩
def postbaglaw20_lives.f : Option (Bool) := some true
theorem postbaglaw20_lives.spec (r : Bool) (h : postbaglaw20_lives.f = some r) : postbaglaw20_lives0.f = some r := by
  rw [← h]
  rfl

theorem postbaglaw20_lives.calls  (r : Bool) (w : World) (h : postbaglaw20_lives.f  = some r) :
    Calls Try.prog 8 #[] w fun e w' => e = .returned (.bool r) ∧ Below w.heap.size w w' := by
  have hk := postbaglaw20_lives.spec  r h
  exact postbaglaw20_lives0.calls r w hk
theorem postbaglaw20_lives.c (w : World) : Calls Try.prog 8 #[] w fun e w' => e = .returned (.bool true) ∧ Below w.heap.size w w' := postbaglaw20_lives.calls true w rfl



/-! ### postbaglaw20_ImageMore: function 3 -/
set_option maxHeartbeats 4000000 in
theorem ImageMore_ok0 (a0_0 : Int) (a0_1 : Int) (a0_2 : Int) (a0_3 : Int) (a0_4 : Int) (a1 : Int) (a2 : Int) (a3 : Int) (w : World) (r2 r3 r4 r5 r7 s2 s3 s4 s5 s7 : Int) (HR : Hid (layOf a0_0 a0_1 a0_2 a0_3 a0_4 a1 a2 = (0, r2, r3, r4, r5, 256, r7, a2, 0))) (HS : Hid (layOf a0_0 (a0_1 + 1) a0_2 a0_3 a0_4 a1 a2 = (0, s2, s3, s4, s5, 256, s7, a2, 0))) (u2 : r2 ≤ s2) (u7 : r7 ≤ s7)
    (g1 : 1 ≤ a0_1) (g2 : a0_1 ≤ 64) (g3 : 1 ≤ a0_2) (g4 : a0_2 ≤ 256) (g5 : 8 ≤ a0_3) (g6 : a0_3 ≤ 1024) (v1 : 0 ≤ a1) (v2 : a1 ≤ 65536) (v3 : 1 ≤ a2) (v4 : a2 ≤ 256)
    (hk : wrap64 ((IntKind.u64.wrap a3).tmod 5) = 0) :
    Calls Try.prog 3 #[.agg #[.int .i64 a0_0, .int .i64 a0_1, .int .i64 a0_2, .int .i64 a0_3, .int .i64 a0_4], .int .i64 a1, .int .i64 a2, .int .i64 a3] w fun e w' => e = .returned (.bool true) ∧ Below w.heap.size w w' := by
  go_enter Try.func3, Try.ntmps3
  go_wp2_with fail
  refine (image_Lay.c _ _ _ _ _ _ _ _ _ _ _ _ _ _ _ _ _ HR.out).mono ?_
  rintro e w1 ⟨rfl, hb1⟩
  have B1 := (Blk.new w _ _).below hb1
  have c1 := B1.cell
  have f1 := B1.frozen
  have l1 := B1.lt
  have HB1 := Lib.hid hb1
  have HBl1 := Lib.hid B1
  clear hb1 B1
  go_wp2_with fail
  refine (image_Lay.c _ _ _ _ _ _ _ _ _ _ _ _ _ _ _ _ _ HS.out).mono ?_
  rintro e w2 ⟨rfl, hb2⟩
  have D2 := Blk.new_set hb2
  have d2 := D2.cell
  have m2 := D2.lt
  have HB2 := Lib.hid hb2
  clear hb2 c1 f1 l1 D2
  go_wp2_with fail
  all_goals
    refine (postbaglaw20_lives.c _).mono ?_
    rintro e w9 ⟨rfl, hb9⟩
    have HB9 := Lib.hid hb9
    clear hb9
    go_wp2_with fail
    go_ret
    have hb1 := HB1.out
    have hb2 := HB2.out
    have y0 : w.heap.size ≤ w1.heap.size := Nat.le_trans (by simp) hb1.size
    have t1 : Below w.heap.size w w1 := ((Below.refl _ _).alloc (Nat.le_refl _) _).trans (hb1.mono (by simp))
    have t1' := t1.setCell (p := ⟨w.heap.size, 1, none⟩) (Nat.le_refl _) (.int .i64 (a0_1 + 1))
    have t2 := (fun o => t1'.alloc (by rw [size_setCell]; exact y0) o)
    have y1 : w1.heap.size ≤ w2.heap.size := Nat.le_trans (by simp) hb2.size
    have t3 : Below w.heap.size w w2 := (t2 _).trans (hb2.mono (by simp; omega))
    have t4 := (fun o => t3.alloc (Nat.le_trans y0 y1) o)
    exact ⟨by first | rfl | simp, (t4 _).trans (HB9.out.mono (by simp; omega))⟩

set_option maxHeartbeats 4000000 in
theorem ImageMore_bad0 (a0_0 : Int) (a0_1 : Int) (a0_2 : Int) (a0_3 : Int) (a0_4 : Int) (a1 : Int) (a2 : Int) (a3 : Int) (w : World) (r2 r3 r4 r5 r7 z : Int) (HR : Hid (layOf a0_0 a0_1 a0_2 a0_3 a0_4 a1 a2 = (0, r2, r3, r4, r5, 256, r7, a2, 0))) (HS : Hid (layOf a0_0 (a0_1 + 1) a0_2 a0_3 a0_4 a1 a2 = (0, 0, 0, 0, 0, 0, 0, 0, z))) (z0 : (z == 0) = false) (z1 : (z != 0) = true)
    (g1 : 1 ≤ a0_1) (g2 : a0_1 ≤ 64) (g3 : 1 ≤ a0_2) (g4 : a0_2 ≤ 256) (g5 : 8 ≤ a0_3) (g6 : a0_3 ≤ 1024) (v1 : 0 ≤ a1) (v2 : a1 ≤ 65536) (v3 : 1 ≤ a2) (v4 : a2 ≤ 256)
    (hk : wrap64 ((IntKind.u64.wrap a3).tmod 5) = 0) :
    Calls Try.prog 3 #[.agg #[.int .i64 a0_0, .int .i64 a0_1, .int .i64 a0_2, .int .i64 a0_3, .int .i64 a0_4], .int .i64 a1, .int .i64 a2, .int .i64 a3] w fun e w' => e = .returned (.bool true) ∧ Below w.heap.size w w' := by
  go_enter Try.func3, Try.ntmps3
  go_wp2_with fail
  refine (image_Lay.c _ _ _ _ _ _ _ _ _ _ _ _ _ _ _ _ _ HR.out).mono ?_
  rintro e w1 ⟨rfl, hb1⟩
  have B1 := (Blk.new w _ _).below hb1
  have c1 := B1.cell
  have f1 := B1.frozen
  have l1 := B1.lt
  have HB1 := Lib.hid hb1
  have HBl1 := Lib.hid B1
  clear hb1 B1
  go_wp2_with fail
  refine (image_Lay.c _ _ _ _ _ _ _ _ _ _ _ _ _ _ _ _ _ HS.out).mono ?_
  rintro e w2 ⟨rfl, hb2⟩
  have D2 := Blk.new_set hb2
  have d2 := D2.cell
  have m2 := D2.lt
  have HB2 := Lib.hid hb2
  clear hb2 c1 f1 l1 D2
  go_wp2_with fail
  all_goals
    refine (postbaglaw20_lives.c _).mono ?_
    rintro e w9 ⟨rfl, hb9⟩
    have HB9 := Lib.hid hb9
    clear hb9
    go_wp2_with fail
    go_ret
    have hb1 := HB1.out
    have hb2 := HB2.out
    have y0 : w.heap.size ≤ w1.heap.size := Nat.le_trans (by simp) hb1.size
    have t1 : Below w.heap.size w w1 := ((Below.refl _ _).alloc (Nat.le_refl _) _).trans (hb1.mono (by simp))
    have t1' := t1.setCell (p := ⟨w.heap.size, 1, none⟩) (Nat.le_refl _) (.int .i64 (a0_1 + 1))
    have t2 := (fun o => t1'.alloc (by rw [size_setCell]; exact y0) o)
    have y1 : w1.heap.size ≤ w2.heap.size := Nat.le_trans (by simp) hb2.size
    have t3 : Below w.heap.size w w2 := (t2 _).trans (hb2.mono (by simp; omega))
    have t4 := (fun o => t3.alloc (Nat.le_trans y0 y1) o)
    exact ⟨by first | rfl | simp, (t4 _).trans (HB9.out.mono (by simp; omega))⟩

set_option maxHeartbeats 4000000 in
theorem ImageMore_ok1 (a0_0 : Int) (a0_1 : Int) (a0_2 : Int) (a0_3 : Int) (a0_4 : Int) (a1 : Int) (a2 : Int) (a3 : Int) (w : World) (r2 r3 r4 r5 r7 s2 s3 s4 s5 s7 : Int) (HR : Hid (layOf a0_0 a0_1 a0_2 a0_3 a0_4 a1 a2 = (0, r2, r3, r4, r5, 256, r7, a2, 0))) (HS : Hid (layOf a0_0 a0_1 (a0_2 + 1) a0_3 a0_4 a1 a2 = (0, s2, s3, s4, s5, 256, s7, a2, 0))) (u2 : r2 ≤ s2) (u7 : r7 ≤ s7)
    (g1 : 1 ≤ a0_1) (g2 : a0_1 ≤ 64) (g3 : 1 ≤ a0_2) (g4 : a0_2 ≤ 256) (g5 : 8 ≤ a0_3) (g6 : a0_3 ≤ 1024) (v1 : 0 ≤ a1) (v2 : a1 ≤ 65536) (v3 : 1 ≤ a2) (v4 : a2 ≤ 256)
    (hk : wrap64 ((IntKind.u64.wrap a3).tmod 5) = 1) :
    Calls Try.prog 3 #[.agg #[.int .i64 a0_0, .int .i64 a0_1, .int .i64 a0_2, .int .i64 a0_3, .int .i64 a0_4], .int .i64 a1, .int .i64 a2, .int .i64 a3] w fun e w' => e = .returned (.bool true) ∧ Below w.heap.size w w' := by
  go_enter Try.func3, Try.ntmps3
  go_wp2_with fail
  refine (image_Lay.c _ _ _ _ _ _ _ _ _ _ _ _ _ _ _ _ _ HR.out).mono ?_
  rintro e w1 ⟨rfl, hb1⟩
  have B1 := (Blk.new w _ _).below hb1
  have c1 := B1.cell
  have f1 := B1.frozen
  have l1 := B1.lt
  have HB1 := Lib.hid hb1
  have HBl1 := Lib.hid B1
  clear hb1 B1
  go_wp2_with fail
  refine (image_Lay.c _ _ _ _ _ _ _ _ _ _ _ _ _ _ _ _ _ HS.out).mono ?_
  rintro e w2 ⟨rfl, hb2⟩
  have D2 := Blk.new_set hb2
  have d2 := D2.cell
  have m2 := D2.lt
  have HB2 := Lib.hid hb2
  clear hb2 c1 f1 l1 D2
  go_wp2_with fail
  all_goals
    refine (postbaglaw20_lives.c _).mono ?_
    rintro e w9 ⟨rfl, hb9⟩
    have HB9 := Lib.hid hb9
    clear hb9
    go_wp2_with fail
    go_ret
    have hb1 := HB1.out
    have hb2 := HB2.out
    have y0 : w.heap.size ≤ w1.heap.size := Nat.le_trans (by simp) hb1.size
    have t1 : Below w.heap.size w w1 := ((Below.refl _ _).alloc (Nat.le_refl _) _).trans (hb1.mono (by simp))
    have t1' := t1.setCell (p := ⟨w.heap.size, 2, none⟩) (Nat.le_refl _) (.int .i64 (a0_2 + 1))
    have t2 := (fun o => t1'.alloc (by rw [size_setCell]; exact y0) o)
    have y1 : w1.heap.size ≤ w2.heap.size := Nat.le_trans (by simp) hb2.size
    have t3 : Below w.heap.size w w2 := (t2 _).trans (hb2.mono (by simp; omega))
    have t4 := (fun o => t3.alloc (Nat.le_trans y0 y1) o)
    exact ⟨by first | rfl | simp, (t4 _).trans (HB9.out.mono (by simp; omega))⟩

set_option maxHeartbeats 4000000 in
theorem ImageMore_bad1 (a0_0 : Int) (a0_1 : Int) (a0_2 : Int) (a0_3 : Int) (a0_4 : Int) (a1 : Int) (a2 : Int) (a3 : Int) (w : World) (r2 r3 r4 r5 r7 z : Int) (HR : Hid (layOf a0_0 a0_1 a0_2 a0_3 a0_4 a1 a2 = (0, r2, r3, r4, r5, 256, r7, a2, 0))) (HS : Hid (layOf a0_0 a0_1 (a0_2 + 1) a0_3 a0_4 a1 a2 = (0, 0, 0, 0, 0, 0, 0, 0, z))) (z0 : (z == 0) = false) (z1 : (z != 0) = true)
    (g1 : 1 ≤ a0_1) (g2 : a0_1 ≤ 64) (g3 : 1 ≤ a0_2) (g4 : a0_2 ≤ 256) (g5 : 8 ≤ a0_3) (g6 : a0_3 ≤ 1024) (v1 : 0 ≤ a1) (v2 : a1 ≤ 65536) (v3 : 1 ≤ a2) (v4 : a2 ≤ 256)
    (hk : wrap64 ((IntKind.u64.wrap a3).tmod 5) = 1) :
    Calls Try.prog 3 #[.agg #[.int .i64 a0_0, .int .i64 a0_1, .int .i64 a0_2, .int .i64 a0_3, .int .i64 a0_4], .int .i64 a1, .int .i64 a2, .int .i64 a3] w fun e w' => e = .returned (.bool true) ∧ Below w.heap.size w w' := by
  go_enter Try.func3, Try.ntmps3
  go_wp2_with fail
  refine (image_Lay.c _ _ _ _ _ _ _ _ _ _ _ _ _ _ _ _ _ HR.out).mono ?_
  rintro e w1 ⟨rfl, hb1⟩
  have B1 := (Blk.new w _ _).below hb1
  have c1 := B1.cell
  have f1 := B1.frozen
  have l1 := B1.lt
  have HB1 := Lib.hid hb1
  have HBl1 := Lib.hid B1
  clear hb1 B1
  go_wp2_with fail
  refine (image_Lay.c _ _ _ _ _ _ _ _ _ _ _ _ _ _ _ _ _ HS.out).mono ?_
  rintro e w2 ⟨rfl, hb2⟩
  have D2 := Blk.new_set hb2
  have d2 := D2.cell
  have m2 := D2.lt
  have HB2 := Lib.hid hb2
  clear hb2 c1 f1 l1 D2
  go_wp2_with fail
  all_goals
    refine (postbaglaw20_lives.c _).mono ?_
    rintro e w9 ⟨rfl, hb9⟩
    have HB9 := Lib.hid hb9
    clear hb9
    go_wp2_with fail
    go_ret
    have hb1 := HB1.out
    have hb2 := HB2.out
    have y0 : w.heap.size ≤ w1.heap.size := Nat.le_trans (by simp) hb1.size
    have t1 : Below w.heap.size w w1 := ((Below.refl _ _).alloc (Nat.le_refl _) _).trans (hb1.mono (by simp))
    have t1' := t1.setCell (p := ⟨w.heap.size, 2, none⟩) (Nat.le_refl _) (.int .i64 (a0_2 + 1))
    have t2 := (fun o => t1'.alloc (by rw [size_setCell]; exact y0) o)
    have y1 : w1.heap.size ≤ w2.heap.size := Nat.le_trans (by simp) hb2.size
    have t3 : Below w.heap.size w w2 := (t2 _).trans (hb2.mono (by simp; omega))
    have t4 := (fun o => t3.alloc (Nat.le_trans y0 y1) o)
    exact ⟨by first | rfl | simp, (t4 _).trans (HB9.out.mono (by simp; omega))⟩

set_option maxHeartbeats 4000000 in
theorem ImageMore_ok2 (a0_0 : Int) (a0_1 : Int) (a0_2 : Int) (a0_3 : Int) (a0_4 : Int) (a1 : Int) (a2 : Int) (a3 : Int) (w : World) (r2 r3 r4 r5 r7 s2 s3 s4 s5 s7 : Int) (HR : Hid (layOf a0_0 a0_1 a0_2 a0_3 a0_4 a1 a2 = (0, r2, r3, r4, r5, 256, r7, a2, 0))) (HS : Hid (layOf a0_0 a0_1 a0_2 (a0_3 + 1) a0_4 a1 a2 = (0, s2, s3, s4, s5, 256, s7, a2, 0))) (u2 : r2 ≤ s2) (u7 : r7 ≤ s7)
    (g1 : 1 ≤ a0_1) (g2 : a0_1 ≤ 64) (g3 : 1 ≤ a0_2) (g4 : a0_2 ≤ 256) (g5 : 8 ≤ a0_3) (g6 : a0_3 ≤ 1024) (v1 : 0 ≤ a1) (v2 : a1 ≤ 65536) (v3 : 1 ≤ a2) (v4 : a2 ≤ 256)
    (hk : wrap64 ((IntKind.u64.wrap a3).tmod 5) = 2) :
    Calls Try.prog 3 #[.agg #[.int .i64 a0_0, .int .i64 a0_1, .int .i64 a0_2, .int .i64 a0_3, .int .i64 a0_4], .int .i64 a1, .int .i64 a2, .int .i64 a3] w fun e w' => e = .returned (.bool true) ∧ Below w.heap.size w w' := by
  go_enter Try.func3, Try.ntmps3
  go_wp2_with fail
  refine (image_Lay.c _ _ _ _ _ _ _ _ _ _ _ _ _ _ _ _ _ HR.out).mono ?_
  rintro e w1 ⟨rfl, hb1⟩
  have B1 := (Blk.new w _ _).below hb1
  have c1 := B1.cell
  have f1 := B1.frozen
  have l1 := B1.lt
  have HB1 := Lib.hid hb1
  have HBl1 := Lib.hid B1
  clear hb1 B1
  go_wp2_with fail
  refine (image_Lay.c _ _ _ _ _ _ _ _ _ _ _ _ _ _ _ _ _ HS.out).mono ?_
  rintro e w2 ⟨rfl, hb2⟩
  have D2 := Blk.new_set hb2
  have d2 := D2.cell
  have m2 := D2.lt
  have HB2 := Lib.hid hb2
  clear hb2 c1 f1 l1 D2
  go_wp2_with fail
  all_goals
    refine (postbaglaw20_lives.c _).mono ?_
    rintro e w9 ⟨rfl, hb9⟩
    have HB9 := Lib.hid hb9
    clear hb9
    go_wp2_with fail
    go_ret
    have hb1 := HB1.out
    have hb2 := HB2.out
    have y0 : w.heap.size ≤ w1.heap.size := Nat.le_trans (by simp) hb1.size
    have t1 : Below w.heap.size w w1 := ((Below.refl _ _).alloc (Nat.le_refl _) _).trans (hb1.mono (by simp))
    have t1' := t1.setCell (p := ⟨w.heap.size, 3, none⟩) (Nat.le_refl _) (.int .i64 (a0_3 + 1))
    have t2 := (fun o => t1'.alloc (by rw [size_setCell]; exact y0) o)
    have y1 : w1.heap.size ≤ w2.heap.size := Nat.le_trans (by simp) hb2.size
    have t3 : Below w.heap.size w w2 := (t2 _).trans (hb2.mono (by simp; omega))
    have t4 := (fun o => t3.alloc (Nat.le_trans y0 y1) o)
    exact ⟨by first | rfl | simp, (t4 _).trans (HB9.out.mono (by simp; omega))⟩

set_option maxHeartbeats 4000000 in
theorem ImageMore_bad2 (a0_0 : Int) (a0_1 : Int) (a0_2 : Int) (a0_3 : Int) (a0_4 : Int) (a1 : Int) (a2 : Int) (a3 : Int) (w : World) (r2 r3 r4 r5 r7 z : Int) (HR : Hid (layOf a0_0 a0_1 a0_2 a0_3 a0_4 a1 a2 = (0, r2, r3, r4, r5, 256, r7, a2, 0))) (HS : Hid (layOf a0_0 a0_1 a0_2 (a0_3 + 1) a0_4 a1 a2 = (0, 0, 0, 0, 0, 0, 0, 0, z))) (z0 : (z == 0) = false) (z1 : (z != 0) = true)
    (g1 : 1 ≤ a0_1) (g2 : a0_1 ≤ 64) (g3 : 1 ≤ a0_2) (g4 : a0_2 ≤ 256) (g5 : 8 ≤ a0_3) (g6 : a0_3 ≤ 1024) (v1 : 0 ≤ a1) (v2 : a1 ≤ 65536) (v3 : 1 ≤ a2) (v4 : a2 ≤ 256)
    (hk : wrap64 ((IntKind.u64.wrap a3).tmod 5) = 2) :
    Calls Try.prog 3 #[.agg #[.int .i64 a0_0, .int .i64 a0_1, .int .i64 a0_2, .int .i64 a0_3, .int .i64 a0_4], .int .i64 a1, .int .i64 a2, .int .i64 a3] w fun e w' => e = .returned (.bool true) ∧ Below w.heap.size w w' := by
  go_enter Try.func3, Try.ntmps3
  go_wp2_with fail
  refine (image_Lay.c _ _ _ _ _ _ _ _ _ _ _ _ _ _ _ _ _ HR.out).mono ?_
  rintro e w1 ⟨rfl, hb1⟩
  have B1 := (Blk.new w _ _).below hb1
  have c1 := B1.cell
  have f1 := B1.frozen
  have l1 := B1.lt
  have HB1 := Lib.hid hb1
  have HBl1 := Lib.hid B1
  clear hb1 B1
  go_wp2_with fail
  refine (image_Lay.c _ _ _ _ _ _ _ _ _ _ _ _ _ _ _ _ _ HS.out).mono ?_
  rintro e w2 ⟨rfl, hb2⟩
  have D2 := Blk.new_set hb2
  have d2 := D2.cell
  have m2 := D2.lt
  have HB2 := Lib.hid hb2
  clear hb2 c1 f1 l1 D2
  go_wp2_with fail
  all_goals
    refine (postbaglaw20_lives.c _).mono ?_
    rintro e w9 ⟨rfl, hb9⟩
    have HB9 := Lib.hid hb9
    clear hb9
    go_wp2_with fail
    go_ret
    have hb1 := HB1.out
    have hb2 := HB2.out
    have y0 : w.heap.size ≤ w1.heap.size := Nat.le_trans (by simp) hb1.size
    have t1 : Below w.heap.size w w1 := ((Below.refl _ _).alloc (Nat.le_refl _) _).trans (hb1.mono (by simp))
    have t1' := t1.setCell (p := ⟨w.heap.size, 3, none⟩) (Nat.le_refl _) (.int .i64 (a0_3 + 1))
    have t2 := (fun o => t1'.alloc (by rw [size_setCell]; exact y0) o)
    have y1 : w1.heap.size ≤ w2.heap.size := Nat.le_trans (by simp) hb2.size
    have t3 : Below w.heap.size w w2 := (t2 _).trans (hb2.mono (by simp; omega))
    have t4 := (fun o => t3.alloc (Nat.le_trans y0 y1) o)
    exact ⟨by first | rfl | simp, (t4 _).trans (HB9.out.mono (by simp; omega))⟩

set_option maxHeartbeats 4000000 in
theorem ImageMore_ok3 (a0_0 : Int) (a0_1 : Int) (a0_2 : Int) (a0_3 : Int) (a0_4 : Int) (a1 : Int) (a2 : Int) (a3 : Int) (w : World) (r2 r3 r4 r5 r7 s2 s3 s4 s5 s7 : Int) (HR : Hid (layOf a0_0 a0_1 a0_2 a0_3 a0_4 a1 a2 = (0, r2, r3, r4, r5, 256, r7, a2, 0))) (HS : Hid (layOf a0_0 a0_1 a0_2 a0_3 a0_4 (a1 + 1) a2 = (0, s2, s3, s4, s5, 256, s7, a2, 0))) (u2 : r2 ≤ s2) (u7 : r7 ≤ s7)
    (g1 : 1 ≤ a0_1) (g2 : a0_1 ≤ 64) (g3 : 1 ≤ a0_2) (g4 : a0_2 ≤ 256) (g5 : 8 ≤ a0_3) (g6 : a0_3 ≤ 1024) (v1 : 0 ≤ a1) (v2 : a1 ≤ 65536) (v3 : 1 ≤ a2) (v4 : a2 ≤ 256)
    (hk : wrap64 ((IntKind.u64.wrap a3).tmod 5) = 3) :
    Calls Try.prog 3 #[.agg #[.int .i64 a0_0, .int .i64 a0_1, .int .i64 a0_2, .int .i64 a0_3, .int .i64 a0_4], .int .i64 a1, .int .i64 a2, .int .i64 a3] w fun e w' => e = .returned (.bool true) ∧ Below w.heap.size w w' := by
  go_enter Try.func3, Try.ntmps3
  go_wp2_with fail
  refine (image_Lay.c _ _ _ _ _ _ _ _ _ _ _ _ _ _ _ _ _ HR.out).mono ?_
  rintro e w1 ⟨rfl, hb1⟩
  have B1 := (Blk.new w _ _).below hb1
  have c1 := B1.cell
  have f1 := B1.frozen
  have l1 := B1.lt
  have HB1 := Lib.hid hb1
  have HBl1 := Lib.hid B1
  clear hb1 B1
  go_wp2_with fail
  refine (image_Lay.c _ _ _ _ _ _ _ _ _ _ _ _ _ _ _ _ _ HS.out).mono ?_
  rintro e w2 ⟨rfl, hb2⟩
  have D2 := (Blk.new w1 _ _).below hb2
  have d2 := D2.cell
  have m2 := D2.lt
  have HB2 := Lib.hid hb2
  clear hb2 c1 f1 l1 D2
  go_wp2_with fail
  all_goals
    refine (postbaglaw20_lives.c _).mono ?_
    rintro e w9 ⟨rfl, hb9⟩
    have HB9 := Lib.hid hb9
    clear hb9
    go_wp2_with fail
    go_ret
    have hb1 := HB1.out
    have hb2 := HB2.out
    have y0 : w.heap.size ≤ w1.heap.size := Nat.le_trans (by simp) hb1.size
    have t1 : Below w.heap.size w w1 := ((Below.refl _ _).alloc (Nat.le_refl _) _).trans (hb1.mono (by simp))
    have t2 := (fun o => t1.alloc y0 o)
    have y1 : w1.heap.size ≤ w2.heap.size := Nat.le_trans (by simp) hb2.size
    have t3 : Below w.heap.size w w2 := (t2 _).trans (hb2.mono (by simp; omega))
    have t4 := (fun o => t3.alloc (Nat.le_trans y0 y1) o)
    exact ⟨by first | rfl | simp, (t4 _).trans (HB9.out.mono (by simp; omega))⟩

set_option maxHeartbeats 4000000 in
theorem ImageMore_bad3 (a0_0 : Int) (a0_1 : Int) (a0_2 : Int) (a0_3 : Int) (a0_4 : Int) (a1 : Int) (a2 : Int) (a3 : Int) (w : World) (r2 r3 r4 r5 r7 z : Int) (HR : Hid (layOf a0_0 a0_1 a0_2 a0_3 a0_4 a1 a2 = (0, r2, r3, r4, r5, 256, r7, a2, 0))) (HS : Hid (layOf a0_0 a0_1 a0_2 a0_3 a0_4 (a1 + 1) a2 = (0, 0, 0, 0, 0, 0, 0, 0, z))) (z0 : (z == 0) = false) (z1 : (z != 0) = true)
    (g1 : 1 ≤ a0_1) (g2 : a0_1 ≤ 64) (g3 : 1 ≤ a0_2) (g4 : a0_2 ≤ 256) (g5 : 8 ≤ a0_3) (g6 : a0_3 ≤ 1024) (v1 : 0 ≤ a1) (v2 : a1 ≤ 65536) (v3 : 1 ≤ a2) (v4 : a2 ≤ 256)
    (hk : wrap64 ((IntKind.u64.wrap a3).tmod 5) = 3) :
    Calls Try.prog 3 #[.agg #[.int .i64 a0_0, .int .i64 a0_1, .int .i64 a0_2, .int .i64 a0_3, .int .i64 a0_4], .int .i64 a1, .int .i64 a2, .int .i64 a3] w fun e w' => e = .returned (.bool true) ∧ Below w.heap.size w w' := by
  go_enter Try.func3, Try.ntmps3
  go_wp2_with fail
  refine (image_Lay.c _ _ _ _ _ _ _ _ _ _ _ _ _ _ _ _ _ HR.out).mono ?_
  rintro e w1 ⟨rfl, hb1⟩
  have B1 := (Blk.new w _ _).below hb1
  have c1 := B1.cell
  have f1 := B1.frozen
  have l1 := B1.lt
  have HB1 := Lib.hid hb1
  have HBl1 := Lib.hid B1
  clear hb1 B1
  go_wp2_with fail
  refine (image_Lay.c _ _ _ _ _ _ _ _ _ _ _ _ _ _ _ _ _ HS.out).mono ?_
  rintro e w2 ⟨rfl, hb2⟩
  have D2 := (Blk.new w1 _ _).below hb2
  have d2 := D2.cell
  have m2 := D2.lt
  have HB2 := Lib.hid hb2
  clear hb2 c1 f1 l1 D2
  go_wp2_with fail
  all_goals
    refine (postbaglaw20_lives.c _).mono ?_
    rintro e w9 ⟨rfl, hb9⟩
    have HB9 := Lib.hid hb9
    clear hb9
    go_wp2_with fail
    go_ret
    have hb1 := HB1.out
    have hb2 := HB2.out
    have y0 : w.heap.size ≤ w1.heap.size := Nat.le_trans (by simp) hb1.size
    have t1 : Below w.heap.size w w1 := ((Below.refl _ _).alloc (Nat.le_refl _) _).trans (hb1.mono (by simp))
    have t2 := (fun o => t1.alloc y0 o)
    have y1 : w1.heap.size ≤ w2.heap.size := Nat.le_trans (by simp) hb2.size
    have t3 : Below w.heap.size w w2 := (t2 _).trans (hb2.mono (by simp; omega))
    have t4 := (fun o => t3.alloc (Nat.le_trans y0 y1) o)
    exact ⟨by first | rfl | simp, (t4 _).trans (HB9.out.mono (by simp; omega))⟩

set_option maxHeartbeats 4000000 in
theorem ImageMore_ok4 (a0_0 : Int) (a0_1 : Int) (a0_2 : Int) (a0_3 : Int) (a0_4 : Int) (a1 : Int) (a2 : Int) (a3 : Int) (w : World) (r2 r3 r4 r5 r7 s2 s3 s4 s5 s7 : Int) (HR : Hid (layOf a0_0 a0_1 a0_2 a0_3 a0_4 a1 a2 = (0, r2, r3, r4, r5, 256, r7, a2, 0))) (HS : Hid (layOf a0_0 a0_1 a0_2 a0_3 a0_4 a1 (a2 + 1) = (0, s2, s3, s4, s5, 256, s7, (a2 + 1), 0))) (u2 : r2 ≤ s2) (u7 : r7 ≤ s7)
    (g1 : 1 ≤ a0_1) (g2 : a0_1 ≤ 64) (g3 : 1 ≤ a0_2) (g4 : a0_2 ≤ 256) (g5 : 8 ≤ a0_3) (g6 : a0_3 ≤ 1024) (v1 : 0 ≤ a1) (v2 : a1 ≤ 65536) (v3 : 1 ≤ a2) (v4 : a2 ≤ 256)
    (hk : wrap64 ((IntKind.u64.wrap a3).tmod 5) = 4) :
    Calls Try.prog 3 #[.agg #[.int .i64 a0_0, .int .i64 a0_1, .int .i64 a0_2, .int .i64 a0_3, .int .i64 a0_4], .int .i64 a1, .int .i64 a2, .int .i64 a3] w fun e w' => e = .returned (.bool true) ∧ Below w.heap.size w w' := by
  go_enter Try.func3, Try.ntmps3
  go_wp2_with fail
  refine (image_Lay.c _ _ _ _ _ _ _ _ _ _ _ _ _ _ _ _ _ HR.out).mono ?_
  rintro e w1 ⟨rfl, hb1⟩
  have B1 := (Blk.new w _ _).below hb1
  have c1 := B1.cell
  have f1 := B1.frozen
  have l1 := B1.lt
  have HB1 := Lib.hid hb1
  have HBl1 := Lib.hid B1
  clear hb1 B1
  go_wp2_with fail
  refine (image_Lay.c _ _ _ _ _ _ _ _ _ _ _ _ _ _ _ _ _ HS.out).mono ?_
  rintro e w2 ⟨rfl, hb2⟩
  have D2 := (Blk.new w1 _ _).below hb2
  have d2 := D2.cell
  have m2 := D2.lt
  have HB2 := Lib.hid hb2
  clear hb2 c1 f1 l1 D2
  go_wp2_with fail
  all_goals
    refine (postbaglaw20_lives.c _).mono ?_
    rintro e w9 ⟨rfl, hb9⟩
    have HB9 := Lib.hid hb9
    clear hb9
    go_wp2_with fail
    go_ret
    have hb1 := HB1.out
    have hb2 := HB2.out
    have y0 : w.heap.size ≤ w1.heap.size := Nat.le_trans (by simp) hb1.size
    have t1 : Below w.heap.size w w1 := ((Below.refl _ _).alloc (Nat.le_refl _) _).trans (hb1.mono (by simp))
    have t2 := (fun o => t1.alloc y0 o)
    have y1 : w1.heap.size ≤ w2.heap.size := Nat.le_trans (by simp) hb2.size
    have t3 : Below w.heap.size w w2 := (t2 _).trans (hb2.mono (by simp; omega))
    have t4 := (fun o => t3.alloc (Nat.le_trans y0 y1) o)
    exact ⟨by first | rfl | simp, (t4 _).trans (HB9.out.mono (by simp; omega))⟩

set_option maxHeartbeats 4000000 in
theorem ImageMore_bad4 (a0_0 : Int) (a0_1 : Int) (a0_2 : Int) (a0_3 : Int) (a0_4 : Int) (a1 : Int) (a2 : Int) (a3 : Int) (w : World) (r2 r3 r4 r5 r7 z : Int) (HR : Hid (layOf a0_0 a0_1 a0_2 a0_3 a0_4 a1 a2 = (0, r2, r3, r4, r5, 256, r7, a2, 0))) (HS : Hid (layOf a0_0 a0_1 a0_2 a0_3 a0_4 a1 (a2 + 1) = (0, 0, 0, 0, 0, 0, 0, 0, z))) (z0 : (z == 0) = false) (z1 : (z != 0) = true)
    (g1 : 1 ≤ a0_1) (g2 : a0_1 ≤ 64) (g3 : 1 ≤ a0_2) (g4 : a0_2 ≤ 256) (g5 : 8 ≤ a0_3) (g6 : a0_3 ≤ 1024) (v1 : 0 ≤ a1) (v2 : a1 ≤ 65536) (v3 : 1 ≤ a2) (v4 : a2 ≤ 256)
    (hk : wrap64 ((IntKind.u64.wrap a3).tmod 5) = 4) :
    Calls Try.prog 3 #[.agg #[.int .i64 a0_0, .int .i64 a0_1, .int .i64 a0_2, .int .i64 a0_3, .int .i64 a0_4], .int .i64 a1, .int .i64 a2, .int .i64 a3] w fun e w' => e = .returned (.bool true) ∧ Below w.heap.size w w' := by
  go_enter Try.func3, Try.ntmps3
  go_wp2_with fail
  refine (image_Lay.c _ _ _ _ _ _ _ _ _ _ _ _ _ _ _ _ _ HR.out).mono ?_
  rintro e w1 ⟨rfl, hb1⟩
  have B1 := (Blk.new w _ _).below hb1
  have c1 := B1.cell
  have f1 := B1.frozen
  have l1 := B1.lt
  have HB1 := Lib.hid hb1
  have HBl1 := Lib.hid B1
  clear hb1 B1
  go_wp2_with fail
  refine (image_Lay.c _ _ _ _ _ _ _ _ _ _ _ _ _ _ _ _ _ HS.out).mono ?_
  rintro e w2 ⟨rfl, hb2⟩
  have D2 := (Blk.new w1 _ _).below hb2
  have d2 := D2.cell
  have m2 := D2.lt
  have HB2 := Lib.hid hb2
  clear hb2 c1 f1 l1 D2
  go_wp2_with fail
  all_goals
    refine (postbaglaw20_lives.c _).mono ?_
    rintro e w9 ⟨rfl, hb9⟩
    have HB9 := Lib.hid hb9
    clear hb9
    go_wp2_with fail
    go_ret
    have hb1 := HB1.out
    have hb2 := HB2.out
    have y0 : w.heap.size ≤ w1.heap.size := Nat.le_trans (by simp) hb1.size
    have t1 : Below w.heap.size w w1 := ((Below.refl _ _).alloc (Nat.le_refl _) _).trans (hb1.mono (by simp))
    have t2 := (fun o => t1.alloc y0 o)
    have y1 : w1.heap.size ≤ w2.heap.size := Nat.le_trans (by simp) hb2.size
    have t3 : Below w.heap.size w w2 := (t2 _).trans (hb2.mono (by simp; omega))
    have t4 := (fun o => t3.alloc (Nat.le_trans y0 y1) o)
    exact ⟨by first | rfl | simp, (t4 _).trans (HB9.out.mono (by simp; omega))⟩

set_option maxHeartbeats 4000000 in
theorem ImageMore_no (a0_0 : Int) (a0_1 : Int) (a0_2 : Int) (a0_3 : Int) (a0_4 : Int) (a1 : Int) (a2 : Int) (a3 : Int) (w : World) (z : Int) (z0 : (z == 0) = false) (z1 : (z != 0) = true) (HR : Hid (layOf a0_0 a0_1 a0_2 a0_3 a0_4 a1 a2 = (0, 0, 0, 0, 0, 0, 0, 0, z))) :
    Calls Try.prog 3 #[.agg #[.int .i64 a0_0, .int .i64 a0_1, .int .i64 a0_2, .int .i64 a0_3, .int .i64 a0_4], .int .i64 a1, .int .i64 a2, .int .i64 a3] w fun e w' => e = .returned (.bool true) ∧ Below w.heap.size w w' := by
  go_enter Try.func3, Try.ntmps3
  go_wp2_with fail
  refine (image_Lay.c _ _ _ _ _ _ _ _ _ _ _ _ _ _ _ _ _ HR.out).mono ?_
  rintro e w1 ⟨rfl, hb1⟩
  have HB1 := Lib.hid hb1
  clear hb1
  go_wp2_with fail
  refine (postbaglaw20_lives.c _).mono ?_
  rintro e w9 ⟨rfl, hb9⟩
  have HB9 := Lib.hid hb9
  clear hb9
  go_wp2_with fail
  go_ret
  have hb1 := HB1.out
  have y0 : w.heap.size ≤ w1.heap.size := Nat.le_trans (by simp) hb1.size
  have t1 : Below w.heap.size w w1 := ((Below.refl _ _).alloc (Nat.le_refl _) _).trans (hb1.mono (by simp))
  have t2 := fun o => t1.alloc y0 o
  exact ⟨rfl, (t2 _).trans (HB9.out.mono (by simp; omega))⟩

theorem postbaglaw20_ImageMore.all (a0_0 : Int) (a0_1 : Int) (a0_2 : Int) (a0_3 : Int) (a0_4 : Int) (a1 : Int) (a2 : Int) (a3 : Int) (w : World) :
    Calls Try.prog 3 #[.agg #[.int .i64 a0_0, .int .i64 a0_1, .int .i64 a0_2, .int .i64 a0_3, .int .i64 a0_4], .int .i64 a1, .int .i64 a2, .int .i64 a3] w fun e w' => e = .returned (.bool true) ∧ Below w.heap.size w w' := by
  rcases lay_cases a0_0 a0_1 a0_2 a0_3 a0_4 a1 a2 with ⟨hg, v1, v2, v3, v4, he, hl⟩ | hl | hl
  · obtain ⟨-, ⟨g1, g2⟩, ⟨g3, g4⟩, ⟨g5, g6⟩, -⟩ := goodOf_yes hg
    have hk : wrap64 ((IntKind.u64.wrap a3).tmod 5) = 0 ∨ wrap64 ((IntKind.u64.wrap a3).tmod 5) = 1 ∨ wrap64 ((IntKind.u64.wrap a3).tmod 5) = 2 ∨ wrap64 ((IntKind.u64.wrap a3).tmod 5) = 3 ∨ wrap64 ((IntKind.u64.wrap a3).tmod 5) = 4 := by
      have := index_in a3 5 (by omega) (by omega); omega
    have grow := more_grows a0_1 a0_2 a0_3 a1 a2 g1 g3 g5 v1 v3
    rcases hk with hk | hk | hk | hk | hk
    · rcases lay_cases a0_0 (a0_1 + 1) a0_2 a0_3 a0_4 a1 a2 with ⟨_, _, _, _, _, _, hs⟩ | hs | hs
      · exact ImageMore_ok0 _ _ _ _ _ _ _ _ w _ _ _ _ _ _ _ _ _ _ (Lib.hid hl) (Lib.hid hs) (by have := grow; omega) (by have := grow; omega) g1 g2 g3 g4 g5 g6 v1 v2 v3 v4 hk
      · exact ImageMore_bad0 _ _ _ _ _ _ _ _ w _ _ _ _ _ 2 (Lib.hid hl) (Lib.hid hs) (by decide) (by decide) g1 g2 g3 g4 g5 g6 v1 v2 v3 v4 hk
      · exact ImageMore_bad0 _ _ _ _ _ _ _ _ w _ _ _ _ _ 200 (Lib.hid hl) (Lib.hid hs) (by decide) (by decide) g1 g2 g3 g4 g5 g6 v1 v2 v3 v4 hk
    · rcases lay_cases a0_0 a0_1 (a0_2 + 1) a0_3 a0_4 a1 a2 with ⟨_, _, _, _, _, _, hs⟩ | hs | hs
      · exact ImageMore_ok1 _ _ _ _ _ _ _ _ w _ _ _ _ _ _ _ _ _ _ (Lib.hid hl) (Lib.hid hs) (by have := grow; omega) (by have := grow; omega) g1 g2 g3 g4 g5 g6 v1 v2 v3 v4 hk
      · exact ImageMore_bad1 _ _ _ _ _ _ _ _ w _ _ _ _ _ 2 (Lib.hid hl) (Lib.hid hs) (by decide) (by decide) g1 g2 g3 g4 g5 g6 v1 v2 v3 v4 hk
      · exact ImageMore_bad1 _ _ _ _ _ _ _ _ w _ _ _ _ _ 200 (Lib.hid hl) (Lib.hid hs) (by decide) (by decide) g1 g2 g3 g4 g5 g6 v1 v2 v3 v4 hk
    · rcases lay_cases a0_0 a0_1 a0_2 (a0_3 + 1) a0_4 a1 a2 with ⟨_, _, _, _, _, _, hs⟩ | hs | hs
      · exact ImageMore_ok2 _ _ _ _ _ _ _ _ w _ _ _ _ _ _ _ _ _ _ (Lib.hid hl) (Lib.hid hs) (by have := grow; omega) (by have := grow; omega) g1 g2 g3 g4 g5 g6 v1 v2 v3 v4 hk
      · exact ImageMore_bad2 _ _ _ _ _ _ _ _ w _ _ _ _ _ 2 (Lib.hid hl) (Lib.hid hs) (by decide) (by decide) g1 g2 g3 g4 g5 g6 v1 v2 v3 v4 hk
      · exact ImageMore_bad2 _ _ _ _ _ _ _ _ w _ _ _ _ _ 200 (Lib.hid hl) (Lib.hid hs) (by decide) (by decide) g1 g2 g3 g4 g5 g6 v1 v2 v3 v4 hk
    · rcases lay_cases a0_0 a0_1 a0_2 a0_3 a0_4 (a1 + 1) a2 with ⟨_, _, _, _, _, _, hs⟩ | hs | hs
      · exact ImageMore_ok3 _ _ _ _ _ _ _ _ w _ _ _ _ _ _ _ _ _ _ (Lib.hid hl) (Lib.hid hs) (by have := grow; omega) (by have := grow; omega) g1 g2 g3 g4 g5 g6 v1 v2 v3 v4 hk
      · exact ImageMore_bad3 _ _ _ _ _ _ _ _ w _ _ _ _ _ 2 (Lib.hid hl) (Lib.hid hs) (by decide) (by decide) g1 g2 g3 g4 g5 g6 v1 v2 v3 v4 hk
      · exact ImageMore_bad3 _ _ _ _ _ _ _ _ w _ _ _ _ _ 200 (Lib.hid hl) (Lib.hid hs) (by decide) (by decide) g1 g2 g3 g4 g5 g6 v1 v2 v3 v4 hk
    · rcases lay_cases a0_0 a0_1 a0_2 a0_3 a0_4 a1 (a2 + 1) with ⟨_, _, _, _, _, _, hs⟩ | hs | hs
      · exact ImageMore_ok4 _ _ _ _ _ _ _ _ w _ _ _ _ _ _ _ _ _ _ (Lib.hid hl) (Lib.hid hs) (by have := grow; omega) (by have := grow; omega) g1 g2 g3 g4 g5 g6 v1 v2 v3 v4 hk
      · exact ImageMore_bad4 _ _ _ _ _ _ _ _ w _ _ _ _ _ 2 (Lib.hid hl) (Lib.hid hs) (by decide) (by decide) g1 g2 g3 g4 g5 g6 v1 v2 v3 v4 hk
      · exact ImageMore_bad4 _ _ _ _ _ _ _ _ w _ _ _ _ _ 200 (Lib.hid hl) (Lib.hid hs) (by decide) (by decide) g1 g2 g3 g4 g5 g6 v1 v2 v3 v4 hk
  · exact ImageMore_no _ _ _ _ _ _ _ _ w 2 (by decide) (by decide) (Lib.hid hl)
  · exact ImageMore_no _ _ _ _ _ _ _ _ w 200 (by decide) (by decide) (Lib.hid hl)




/-! ### postbagref20_in: function 19 -/
def postbagref20_in.f (a0 : Int) (a1 : Int) (a2 : Int) : Option (Bool) := if a0 ≥ a1 then (some (decide (a0 ≤ a2))) else (some false)
set_option maxHeartbeats 8000000 in
set_option maxRecDepth 100000 in
theorem postbagref20_in.calls (a0 : Int) (a1 : Int) (a2 : Int) (r : Bool) (w : World) (h : postbagref20_in.f a0 a1 a2 = some r) :
    Calls Try.prog 19 #[.int .i64 a0, .int .i64 a1, .int .i64 a2] w fun e w' => e = .returned (.bool r) ∧ Drawn0 w w' := by
  have H : (if a0 ≥ a1 then (some (decide (a0 ≤ a2))) else (some false)) = some r := h
  clear h
  by_cases c4 : a0 ≥ a1
  · rw [if_pos c4] at H
    have c4b0 : decide (a1 ≤ a0) = true := decide_eq_true c4
    clear c4
    obtain rfl := Option.some.inj H
    go_enter Try.func19, Try.ntmps19
    go_wp2
    go_ret
    exact ⟨by first | rfl | (simp; done) | (simp [*]; done), by repeat (first | exact Drawn0.refl _ | apply Drawn0.step)⟩
  · rw [if_neg c4] at H
    have c4b0 : decide (a1 ≤ a0) = false := decide_eq_false c4
    clear c4
    obtain rfl := Option.some.inj H
    go_enter Try.func19, Try.ntmps19
    go_wp2
    go_ret
    exact ⟨by first | rfl | (simp; done) | (simp [*]; done), by repeat (first | exact Drawn0.refl _ | apply Drawn0.step)⟩

/-! ### postbagref20_Good0: function 11 -/
def postbagref20_Good0.f (a0_0 : Int) (a0_1 : Int) (a0_2 : Int) (a0_3 : Int) (a0_4 : Int) : Option (Bool) := (postbagref20_in.f a0_0 1 8).bind fun t112 => (if t112 = true then ((postbagref20_in.f a0_1 1 64).bind fun t113 => (if t113 = true then ((postbagref20_in.f a0_2 1 256).bind fun t114 => (if t114 = true then ((postbagref20_in.f a0_3 8 1024).bind fun t115 => (if t115 = true then ((postbagref20_in.f a0_4 1 1000).bind fun t116 => (some t116)) else (some false))) else (some false))) else (some false))) else (some false))
set_option maxHeartbeats 8000000 in
set_option maxRecDepth 100000 in
theorem postbagref20_Good0.calls (a0_0 : Int) (a0_1 : Int) (a0_2 : Int) (a0_3 : Int) (a0_4 : Int) (r : Bool) (w : World) (h : postbagref20_Good0.f a0_0 a0_1 a0_2 a0_3 a0_4 = some r) :
    Calls Try.prog 11 #[.agg #[.int .i64 a0_0, .int .i64 a0_1, .int .i64 a0_2, .int .i64 a0_3, .int .i64 a0_4]] w fun e w' => e = .returned (.bool r) ∧ Below w.heap.size w w' := by
  have hu23 := Try.underlying23
  have HB := Aside0.mk (Below.refl w.heap.size w)
  have H : ((postbagref20_in.f a0_0 1 8).bind fun t112 => (if t112 = true then ((postbagref20_in.f a0_1 1 64).bind fun t113 => (if t113 = true then ((postbagref20_in.f a0_2 1 256).bind fun t114 => (if t114 = true then ((postbagref20_in.f a0_3 8 1024).bind fun t115 => (if t115 = true then ((postbagref20_in.f a0_4 1 1000).bind fun t116 => (some t116)) else (some false))) else (some false))) else (some false))) else (some false))) = some r := h
  clear h
  replace H := Option.bind_eq_some_iff.mp H
  obtain ⟨t112, A20, H⟩ := H
  replace H : (if t112 = true then ((postbagref20_in.f a0_1 1 64).bind fun t113 => (if t113 = true then ((postbagref20_in.f a0_2 1 256).bind fun t114 => (if t114 = true then ((postbagref20_in.f a0_3 8 1024).bind fun t115 => (if t115 = true then ((postbagref20_in.f a0_4 1 1000).bind fun t116 => (some t116)) else (some false))) else (some false))) else (some false))) else (some false)) = some r := H
  have A2 := Aside0.mk A20
  clear A20
  by_cases c3 : t112 = true
  · subst c3
    have H1 : ((postbagref20_in.f a0_1 1 64).bind fun t113 => (if t113 = true then ((postbagref20_in.f a0_2 1 256).bind fun t114 => (if t114 = true then ((postbagref20_in.f a0_3 8 1024).bind fun t115 => (if t115 = true then ((postbagref20_in.f a0_4 1 1000).bind fun t116 => (some t116)) else (some false))) else (some false))) else (some false))) = some r := by rw [if_pos rfl] at H; exact H
    clear H
    have H := H1
    clear H1
    replace H := Option.bind_eq_some_iff.mp H
    obtain ⟨t113, A40, H⟩ := H
    replace H : (if t113 = true then ((postbagref20_in.f a0_2 1 256).bind fun t114 => (if t114 = true then ((postbagref20_in.f a0_3 8 1024).bind fun t115 => (if t115 = true then ((postbagref20_in.f a0_4 1 1000).bind fun t116 => (some t116)) else (some false))) else (some false))) else (some false)) = some r := H
    have A4 := Aside0.mk A40
    clear A40
    by_cases c5 : t113 = true
    · subst c5
      have H1 : ((postbagref20_in.f a0_2 1 256).bind fun t114 => (if t114 = true then ((postbagref20_in.f a0_3 8 1024).bind fun t115 => (if t115 = true then ((postbagref20_in.f a0_4 1 1000).bind fun t116 => (some t116)) else (some false))) else (some false))) = some r := by rw [if_pos rfl] at H; exact H
      clear H
      have H := H1
      clear H1
      replace H := Option.bind_eq_some_iff.mp H
      obtain ⟨t114, A60, H⟩ := H
      replace H : (if t114 = true then ((postbagref20_in.f a0_3 8 1024).bind fun t115 => (if t115 = true then ((postbagref20_in.f a0_4 1 1000).bind fun t116 => (some t116)) else (some false))) else (some false)) = some r := H
      have A6 := Aside0.mk A60
      clear A60
      by_cases c7 : t114 = true
      · subst c7
        have H1 : ((postbagref20_in.f a0_3 8 1024).bind fun t115 => (if t115 = true then ((postbagref20_in.f a0_4 1 1000).bind fun t116 => (some t116)) else (some false))) = some r := by rw [if_pos rfl] at H; exact H
        clear H
        have H := H1
        clear H1
        replace H := Option.bind_eq_some_iff.mp H
        obtain ⟨t115, A80, H⟩ := H
        replace H : (if t115 = true then ((postbagref20_in.f a0_4 1 1000).bind fun t116 => (some t116)) else (some false)) = some r := H
        have A8 := Aside0.mk A80
        clear A80
        by_cases c9 : t115 = true
        · subst c9
          have H1 : ((postbagref20_in.f a0_4 1 1000).bind fun t116 => (some t116)) = some r := by rw [if_pos rfl] at H; exact H
          clear H
          have H := H1
          clear H1
          replace H := Option.bind_eq_some_iff.mp H
          obtain ⟨t116, A100, H⟩ := H
          replace H : (some t116) = some r := H
          have A10 := Aside0.mk A100
          clear A100
          obtain rfl := Option.some.inj H
          go_enter Try.func11, Try.ntmps11
          go_wp2_with (first | ((with_reducible refine gate_dst (N := 1) rfl ?_); refine box_event ?hg (N := 1) ?hd (cs := #[.int .i64 a0_0, .int .i64 a0_1, .int .i64 a0_2, .int .i64 a0_3, .int .i64 a0_4]) (t := 23) ?hr ?_; (case hd => rfl); (case hg => rfl); (case hr => first | (go_simp; done) | (go_simp; rfl)); intro gb111 hg w11 hbox hb; have n0_ := Aside0.mk (below_step (by repeat (first | (with_reducible first | exact HB.out | apply below_alloc | apply pw_below_drewN | apply below_drew1) | exact HB.out)) hb); have n1_ := Aside0.mk (hbox); have n2_ := Aside0.mk ((by rw [hg]; exact (below_size (by repeat (first | (with_reducible first | exact HB.out | apply below_alloc | apply pw_below_drewN | apply below_drew1) | exact HB.out))) : w.heap.size ≤ gb111)); have n3_ := Aside0.mk ((by rw [hg]; exact (below_size (by repeat (first | (with_reducible first | exact HB.out | apply below_alloc | apply pw_below_drewN | apply below_drew1) | exact HB.out))) : w.heap.size ≤ gb111)); clear HB; have HB := n0_; have BK111 := n1_; have GW111 := n2_; have GE111 := n3_; clear n0_ n1_ n2_ n3_; clear hb hbox hg; have hcz12_0 : w11.cell? ⟨gb111, 0, none⟩ = some (.int .i64 a0_0) := (blk_cell BK111.out 0).trans rfl; have hcz12_1 : w11.cell? ⟨gb111, 1, none⟩ = some (.int .i64 a0_1) := (blk_cell BK111.out 1).trans rfl; have hcz12_2 : w11.cell? ⟨gb111, 2, none⟩ = some (.int .i64 a0_2) := (blk_cell BK111.out 2).trans rfl; have hcz12_3 : w11.cell? ⟨gb111, 3, none⟩ = some (.int .i64 a0_3) := (blk_cell BK111.out 3).trans rfl; have hcz12_4 : w11.cell? ⟨gb111, 4, none⟩ = some (.int .i64 a0_4) := (blk_cell BK111.out 4).trans rfl; have hfz12_0 := blk_frozen BK111.out 0; have hfz12_1 := blk_frozen BK111.out 1; have hfz12_2 := blk_frozen BK111.out 2; have hfz12_3 := blk_frozen BK111.out 3; have hfz12_4 := blk_frozen BK111.out 4) | ((with_reducible refine gate_callee (f := 19) rfl ?_); refine goesL_ (some 5) rfl rfl Try.func19 (by kernel_rfl) rfl #[.int .i64 a0_0, .int .i64 1, .int .i64 8] rfl (by (try simp only [List.map_toArray, List.map_cons, List.map_nil]); first | done | rfl | (simp only [List.length_drop, List.length_take]; rfl)) ?_; (with_reducible refine (postbagref20_in.calls a0_0 1 8 true _ A2.out).mono ?_); rintro e w' ⟨rfl, ⟨nd, rfl⟩⟩; refine ⟨_, rfl, ?_⟩) | (go_at_call 19; (with_reducible refine (postbagref20_in.calls a0_1 1 64 true _ A4.out).mono ?_); rintro e w' ⟨rfl, ⟨nd, rfl⟩⟩) | (go_at_call 19; (with_reducible refine (postbagref20_in.calls a0_2 1 256 true _ A6.out).mono ?_); rintro e w' ⟨rfl, ⟨nd, rfl⟩⟩) | (go_at_call 19; (with_reducible refine (postbagref20_in.calls a0_3 8 1024 true _ A8.out).mono ?_); rintro e w' ⟨rfl, ⟨nd, rfl⟩⟩) | (go_at_call 19; (with_reducible refine (postbagref20_in.calls a0_4 1 1000 t116 _ A10.out).mono ?_); rintro e w' ⟨rfl, ⟨nd, rfl⟩⟩))
          go_ret
          exact ⟨by first | rfl | (simp [errW_none, errW_some] <;> rfl) | (simp [*, errW_none, errW_some] <;> rfl), by repeat (first | (with_reducible first | exact HB.out | apply below_alloc | apply pw_below_drewN | apply below_drew1 | refine below_set ?_ GE111.out) | exact HB.out)⟩
        · replace c9 := Bool.eq_false_iff.mpr c9
          subst c9
          have H1 : (some false) = some r := by rw [if_neg (show ¬ (false = true) by decide)] at H; exact H
          clear H
          have H := H1
          clear H1
          obtain rfl := Option.some.inj H
          go_enter Try.func11, Try.ntmps11
          go_wp2_with (first | ((with_reducible refine gate_dst (N := 1) rfl ?_); refine box_event ?hg (N := 1) ?hd (cs := #[.int .i64 a0_0, .int .i64 a0_1, .int .i64 a0_2, .int .i64 a0_3, .int .i64 a0_4]) (t := 23) ?hr ?_; (case hd => rfl); (case hg => rfl); (case hr => first | (go_simp; done) | (go_simp; rfl)); intro gb111 hg w13 hbox hb; have n0_ := Aside0.mk (below_step (by repeat (first | (with_reducible first | exact HB.out | apply below_alloc | apply pw_below_drewN | apply below_drew1) | exact HB.out)) hb); have n1_ := Aside0.mk (hbox); have n2_ := Aside0.mk ((by rw [hg]; exact (below_size (by repeat (first | (with_reducible first | exact HB.out | apply below_alloc | apply pw_below_drewN | apply below_drew1) | exact HB.out))) : w.heap.size ≤ gb111)); have n3_ := Aside0.mk ((by rw [hg]; exact (below_size (by repeat (first | (with_reducible first | exact HB.out | apply below_alloc | apply pw_below_drewN | apply below_drew1) | exact HB.out))) : w.heap.size ≤ gb111)); clear HB; have HB := n0_; have BK111 := n1_; have GW111 := n2_; have GE111 := n3_; clear n0_ n1_ n2_ n3_; clear hb hbox hg; have hcz14_0 : w13.cell? ⟨gb111, 0, none⟩ = some (.int .i64 a0_0) := (blk_cell BK111.out 0).trans rfl; have hcz14_1 : w13.cell? ⟨gb111, 1, none⟩ = some (.int .i64 a0_1) := (blk_cell BK111.out 1).trans rfl; have hcz14_2 : w13.cell? ⟨gb111, 2, none⟩ = some (.int .i64 a0_2) := (blk_cell BK111.out 2).trans rfl; have hcz14_3 : w13.cell? ⟨gb111, 3, none⟩ = some (.int .i64 a0_3) := (blk_cell BK111.out 3).trans rfl; have hcz14_4 : w13.cell? ⟨gb111, 4, none⟩ = some (.int .i64 a0_4) := (blk_cell BK111.out 4).trans rfl; have hfz14_0 := blk_frozen BK111.out 0; have hfz14_1 := blk_frozen BK111.out 1; have hfz14_2 := blk_frozen BK111.out 2; have hfz14_3 := blk_frozen BK111.out 3; have hfz14_4 := blk_frozen BK111.out 4) | ((with_reducible refine gate_callee (f := 19) rfl ?_); refine goesL_ (some 5) rfl rfl Try.func19 (by kernel_rfl) rfl #[.int .i64 a0_0, .int .i64 1, .int .i64 8] rfl (by (try simp only [List.map_toArray, List.map_cons, List.map_nil]); first | done | rfl | (simp only [List.length_drop, List.length_take]; rfl)) ?_; (with_reducible refine (postbagref20_in.calls a0_0 1 8 true _ A2.out).mono ?_); rintro e w' ⟨rfl, ⟨nd, rfl⟩⟩; refine ⟨_, rfl, ?_⟩) | (go_at_call 19; (with_reducible refine (postbagref20_in.calls a0_1 1 64 true _ A4.out).mono ?_); rintro e w' ⟨rfl, ⟨nd, rfl⟩⟩) | (go_at_call 19; (with_reducible refine (postbagref20_in.calls a0_2 1 256 true _ A6.out).mono ?_); rintro e w' ⟨rfl, ⟨nd, rfl⟩⟩) | (go_at_call 19; (with_reducible refine (postbagref20_in.calls a0_3 8 1024 false _ A8.out).mono ?_); rintro e w' ⟨rfl, ⟨nd, rfl⟩⟩))
          go_ret
          exact ⟨by first | rfl | (simp [errW_none, errW_some] <;> rfl) | (simp [*, errW_none, errW_some] <;> rfl), by repeat (first | (with_reducible first | exact HB.out | apply below_alloc | apply pw_below_drewN | apply below_drew1 | refine below_set ?_ GE111.out) | exact HB.out)⟩
      · replace c7 := Bool.eq_false_iff.mpr c7
        subst c7
        have H1 : (some false) = some r := by rw [if_neg (show ¬ (false = true) by decide)] at H; exact H
        clear H
        have H := H1
        clear H1
        obtain rfl := Option.some.inj H
        go_enter Try.func11, Try.ntmps11
        go_wp2_with (first | ((with_reducible refine gate_dst (N := 1) rfl ?_); refine box_event ?hg (N := 1) ?hd (cs := #[.int .i64 a0_0, .int .i64 a0_1, .int .i64 a0_2, .int .i64 a0_3, .int .i64 a0_4]) (t := 23) ?hr ?_; (case hd => rfl); (case hg => rfl); (case hr => first | (go_simp; done) | (go_simp; rfl)); intro gb111 hg w15 hbox hb; have n0_ := Aside0.mk (below_step (by repeat (first | (with_reducible first | exact HB.out | apply below_alloc | apply pw_below_drewN | apply below_drew1) | exact HB.out)) hb); have n1_ := Aside0.mk (hbox); have n2_ := Aside0.mk ((by rw [hg]; exact (below_size (by repeat (first | (with_reducible first | exact HB.out | apply below_alloc | apply pw_below_drewN | apply below_drew1) | exact HB.out))) : w.heap.size ≤ gb111)); have n3_ := Aside0.mk ((by rw [hg]; exact (below_size (by repeat (first | (with_reducible first | exact HB.out | apply below_alloc | apply pw_below_drewN | apply below_drew1) | exact HB.out))) : w.heap.size ≤ gb111)); clear HB; have HB := n0_; have BK111 := n1_; have GW111 := n2_; have GE111 := n3_; clear n0_ n1_ n2_ n3_; clear hb hbox hg; have hcz16_0 : w15.cell? ⟨gb111, 0, none⟩ = some (.int .i64 a0_0) := (blk_cell BK111.out 0).trans rfl; have hcz16_1 : w15.cell? ⟨gb111, 1, none⟩ = some (.int .i64 a0_1) := (blk_cell BK111.out 1).trans rfl; have hcz16_2 : w15.cell? ⟨gb111, 2, none⟩ = some (.int .i64 a0_2) := (blk_cell BK111.out 2).trans rfl; have hcz16_3 : w15.cell? ⟨gb111, 3, none⟩ = some (.int .i64 a0_3) := (blk_cell BK111.out 3).trans rfl; have hcz16_4 : w15.cell? ⟨gb111, 4, none⟩ = some (.int .i64 a0_4) := (blk_cell BK111.out 4).trans rfl; have hfz16_0 := blk_frozen BK111.out 0; have hfz16_1 := blk_frozen BK111.out 1; have hfz16_2 := blk_frozen BK111.out 2; have hfz16_3 := blk_frozen BK111.out 3; have hfz16_4 := blk_frozen BK111.out 4) | ((with_reducible refine gate_callee (f := 19) rfl ?_); refine goesL_ (some 5) rfl rfl Try.func19 (by kernel_rfl) rfl #[.int .i64 a0_0, .int .i64 1, .int .i64 8] rfl (by (try simp only [List.map_toArray, List.map_cons, List.map_nil]); first | done | rfl | (simp only [List.length_drop, List.length_take]; rfl)) ?_; (with_reducible refine (postbagref20_in.calls a0_0 1 8 true _ A2.out).mono ?_); rintro e w' ⟨rfl, ⟨nd, rfl⟩⟩; refine ⟨_, rfl, ?_⟩) | (go_at_call 19; (with_reducible refine (postbagref20_in.calls a0_1 1 64 true _ A4.out).mono ?_); rintro e w' ⟨rfl, ⟨nd, rfl⟩⟩) | (go_at_call 19; (with_reducible refine (postbagref20_in.calls a0_2 1 256 false _ A6.out).mono ?_); rintro e w' ⟨rfl, ⟨nd, rfl⟩⟩))
        go_ret
        exact ⟨by first | rfl | (simp [errW_none, errW_some] <;> rfl) | (simp [*, errW_none, errW_some] <;> rfl), by repeat (first | (with_reducible first | exact HB.out | apply below_alloc | apply pw_below_drewN | apply below_drew1 | refine below_set ?_ GE111.out) | exact HB.out)⟩
    · replace c5 := Bool.eq_false_iff.mpr c5
      subst c5
      have H1 : (some false) = some r := by rw [if_neg (show ¬ (false = true) by decide)] at H; exact H
      clear H
      have H := H1
      clear H1
      obtain rfl := Option.some.inj H
      go_enter Try.func11, Try.ntmps11
      go_wp2_with (first | ((with_reducible refine gate_dst (N := 1) rfl ?_); refine box_event ?hg (N := 1) ?hd (cs := #[.int .i64 a0_0, .int .i64 a0_1, .int .i64 a0_2, .int .i64 a0_3, .int .i64 a0_4]) (t := 23) ?hr ?_; (case hd => rfl); (case hg => rfl); (case hr => first | (go_simp; done) | (go_simp; rfl)); intro gb111 hg w17 hbox hb; have n0_ := Aside0.mk (below_step (by repeat (first | (with_reducible first | exact HB.out | apply below_alloc | apply pw_below_drewN | apply below_drew1) | exact HB.out)) hb); have n1_ := Aside0.mk (hbox); have n2_ := Aside0.mk ((by rw [hg]; exact (below_size (by repeat (first | (with_reducible first | exact HB.out | apply below_alloc | apply pw_below_drewN | apply below_drew1) | exact HB.out))) : w.heap.size ≤ gb111)); have n3_ := Aside0.mk ((by rw [hg]; exact (below_size (by repeat (first | (with_reducible first | exact HB.out | apply below_alloc | apply pw_below_drewN | apply below_drew1) | exact HB.out))) : w.heap.size ≤ gb111)); clear HB; have HB := n0_; have BK111 := n1_; have GW111 := n2_; have GE111 := n3_; clear n0_ n1_ n2_ n3_; clear hb hbox hg; have hcz18_0 : w17.cell? ⟨gb111, 0, none⟩ = some (.int .i64 a0_0) := (blk_cell BK111.out 0).trans rfl; have hcz18_1 : w17.cell? ⟨gb111, 1, none⟩ = some (.int .i64 a0_1) := (blk_cell BK111.out 1).trans rfl; have hcz18_2 : w17.cell? ⟨gb111, 2, none⟩ = some (.int .i64 a0_2) := (blk_cell BK111.out 2).trans rfl; have hcz18_3 : w17.cell? ⟨gb111, 3, none⟩ = some (.int .i64 a0_3) := (blk_cell BK111.out 3).trans rfl; have hcz18_4 : w17.cell? ⟨gb111, 4, none⟩ = some (.int .i64 a0_4) := (blk_cell BK111.out 4).trans rfl; have hfz18_0 := blk_frozen BK111.out 0; have hfz18_1 := blk_frozen BK111.out 1; have hfz18_2 := blk_frozen BK111.out 2; have hfz18_3 := blk_frozen BK111.out 3; have hfz18_4 := blk_frozen BK111.out 4) | ((with_reducible refine gate_callee (f := 19) rfl ?_); refine goesL_ (some 5) rfl rfl Try.func19 (by kernel_rfl) rfl #[.int .i64 a0_0, .int .i64 1, .int .i64 8] rfl (by (try simp only [List.map_toArray, List.map_cons, List.map_nil]); first | done | rfl | (simp only [List.length_drop, List.length_take]; rfl)) ?_; (with_reducible refine (postbagref20_in.calls a0_0 1 8 true _ A2.out).mono ?_); rintro e w' ⟨rfl, ⟨nd, rfl⟩⟩; refine ⟨_, rfl, ?_⟩) | (go_at_call 19; (with_reducible refine (postbagref20_in.calls a0_1 1 64 false _ A4.out).mono ?_); rintro e w' ⟨rfl, ⟨nd, rfl⟩⟩))
      go_ret
      exact ⟨by first | rfl | (simp [errW_none, errW_some] <;> rfl) | (simp [*, errW_none, errW_some] <;> rfl), by repeat (first | (with_reducible first | exact HB.out | apply below_alloc | apply pw_below_drewN | apply below_drew1 | refine below_set ?_ GE111.out) | exact HB.out)⟩
  · replace c3 := Bool.eq_false_iff.mpr c3
    subst c3
    have H1 : (some false) = some r := by rw [if_neg (show ¬ (false = true) by decide)] at H; exact H
    clear H
    have H := H1
    clear H1
    obtain rfl := Option.some.inj H
    go_enter Try.func11, Try.ntmps11
    go_wp2_with (first | ((with_reducible refine gate_dst (N := 1) rfl ?_); refine box_event ?hg (N := 1) ?hd (cs := #[.int .i64 a0_0, .int .i64 a0_1, .int .i64 a0_2, .int .i64 a0_3, .int .i64 a0_4]) (t := 23) ?hr ?_; (case hd => rfl); (case hg => rfl); (case hr => first | (go_simp; done) | (go_simp; rfl)); intro gb111 hg w19 hbox hb; have n0_ := Aside0.mk (below_step (by repeat (first | (with_reducible first | exact HB.out | apply below_alloc | apply pw_below_drewN | apply below_drew1) | exact HB.out)) hb); have n1_ := Aside0.mk (hbox); have n2_ := Aside0.mk ((by rw [hg]; exact (below_size (by repeat (first | (with_reducible first | exact HB.out | apply below_alloc | apply pw_below_drewN | apply below_drew1) | exact HB.out))) : w.heap.size ≤ gb111)); have n3_ := Aside0.mk ((by rw [hg]; exact (below_size (by repeat (first | (with_reducible first | exact HB.out | apply below_alloc | apply pw_below_drewN | apply below_drew1) | exact HB.out))) : w.heap.size ≤ gb111)); clear HB; have HB := n0_; have BK111 := n1_; have GW111 := n2_; have GE111 := n3_; clear n0_ n1_ n2_ n3_; clear hb hbox hg; have hcz20_0 : w19.cell? ⟨gb111, 0, none⟩ = some (.int .i64 a0_0) := (blk_cell BK111.out 0).trans rfl; have hcz20_1 : w19.cell? ⟨gb111, 1, none⟩ = some (.int .i64 a0_1) := (blk_cell BK111.out 1).trans rfl; have hcz20_2 : w19.cell? ⟨gb111, 2, none⟩ = some (.int .i64 a0_2) := (blk_cell BK111.out 2).trans rfl; have hcz20_3 : w19.cell? ⟨gb111, 3, none⟩ = some (.int .i64 a0_3) := (blk_cell BK111.out 3).trans rfl; have hcz20_4 : w19.cell? ⟨gb111, 4, none⟩ = some (.int .i64 a0_4) := (blk_cell BK111.out 4).trans rfl; have hfz20_0 := blk_frozen BK111.out 0; have hfz20_1 := blk_frozen BK111.out 1; have hfz20_2 := blk_frozen BK111.out 2; have hfz20_3 := blk_frozen BK111.out 3; have hfz20_4 := blk_frozen BK111.out 4) | ((with_reducible refine gate_callee (f := 19) rfl ?_); refine goesL_ (some 5) rfl rfl Try.func19 (by kernel_rfl) rfl #[.int .i64 a0_0, .int .i64 1, .int .i64 8] rfl (by (try simp only [List.map_toArray, List.map_cons, List.map_nil]); first | done | rfl | (simp only [List.length_drop, List.length_take]; rfl)) ?_; (with_reducible refine (postbagref20_in.calls a0_0 1 8 false _ A2.out).mono ?_); rintro e w' ⟨rfl, ⟨nd, rfl⟩⟩; refine ⟨_, rfl, ?_⟩))
    go_ret
    exact ⟨by first | rfl | (simp [errW_none, errW_some] <;> rfl) | (simp [*, errW_none, errW_some] <;> rfl), by repeat (first | (with_reducible first | exact HB.out | apply below_alloc | apply pw_below_drewN | apply below_drew1 | refine below_set ?_ GE111.out) | exact HB.out)⟩
def postbagref20_Good.f (a0_0 : Int) (a0_1 : Int) (a0_2 : Int) (a0_3 : Int) (a0_4 : Int) : Option (Bool) := some (goodOf a0_0 a0_1 a0_2 a0_3 a0_4)
theorem postbagref20_in.eq (n l h : Int) : postbagref20_in.f n l h = some (decide (l ≤ n ∧ n ≤ h)) := by
  unfold postbagref20_in.f
  by_cases c : n ≥ l
  · rw [if_pos c]; congr 1; rw [Bool.eq_iff_iff, decide_eq_true_iff, decide_eq_true_iff]; omega
  · rw [if_neg c, decide_eq_false (by omega)]
theorem postbagref20_Good.spec (a0_0 : Int) (a0_1 : Int) (a0_2 : Int) (a0_3 : Int) (a0_4 : Int) (r : Bool) (h : postbagref20_Good.f a0_0 a0_1 a0_2 a0_3 a0_4 = some r) : postbagref20_Good0.f a0_0 a0_1 a0_2 a0_3 a0_4 = some r := by
  rw [← h]
  unfold postbagref20_Good.f postbagref20_Good0.f goodOf
  simp only [postbagref20_in.eq, Option.bind_some, decide_eq_true_iff]
  repeat' split
  all_goals first | exact congrArg some (decide_eq_true (by omega)) | (congr 1; rw [Bool.eq_iff_iff, decide_eq_true_iff, decide_eq_true_iff]; omega) | (congr 1; symm; exact decide_eq_false (by omega))


theorem postbagref20_Good.calls (a0_0 : Int) (a0_1 : Int) (a0_2 : Int) (a0_3 : Int) (a0_4 : Int) (r : Bool) (w : World) (h : postbagref20_Good.f a0_0 a0_1 a0_2 a0_3 a0_4 = some r) :
    Calls Try.prog 11 #[.agg #[.int .i64 a0_0, .int .i64 a0_1, .int .i64 a0_2, .int .i64 a0_3, .int .i64 a0_4]] w fun e w' => e = .returned (.bool r) ∧ Below w.heap.size w w' := by
  have hk := postbagref20_Good.spec a0_0 a0_1 a0_2 a0_3 a0_4 r h
  exact postbagref20_Good0.calls a0_0 a0_1 a0_2 a0_3 a0_4 r w hk
theorem postbagref20_Good.c (a0_0 : Int) (a0_1 : Int) (a0_2 : Int) (a0_3 : Int) (a0_4 : Int) (w : World) :
    Calls Try.prog 11 #[.agg #[.int .i64 a0_0, .int .i64 a0_1, .int .i64 a0_2, .int .i64 a0_3, .int .i64 a0_4]] w fun e w' => e = .returned (.bool (goodOf a0_0 a0_1 a0_2 a0_3 a0_4)) ∧ Below w.heap.size w w' := postbagref20_Good.calls _ _ _ _ _ _ w rfl



end Go.Proofs.Ytaimncgdpnjhiaa.PAll
