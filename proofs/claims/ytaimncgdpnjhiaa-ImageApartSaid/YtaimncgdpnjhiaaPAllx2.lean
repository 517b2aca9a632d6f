/- DERIVED. The contracts of the Go functions that one law reaches: each call returns what the plain function beside it says, under that theorem's own premises. Written by a program (hp.py) over the kit's printed words. -/
import Derived.Test.YtaimncgdpnjhiaaPAllx0
import Derived.Test.YtaimncgdpnjhiaaPAllx1
namespace Go.Proofs.Ytaimncgdpnjhiaa.PAll
open Go.RowKit Go.Proofs.YtaimncgdpnjhiaaW.PrintWords Go.Proofs.YtaimncgdpnjhiaaW.PrintLast Go.Proofs.YtaimncgdpnjhiaaW.PrintMore Go.Proofs.Ytaimncgdpnjhiaa.M
attribute [local go_sem] max2_int min2_int max_two min_two max_three min_three max_four min_four   -- for this text's walks alone
set_option linter.unusedVariables false
set_option linter.unusedSimpArgs false

/-! ### postbagref20_Lay: function 9 -/
def postbagref20_Lay.f (a0_0 : Int) (a0_1 : Int) (a0_2 : Int) (a0_3 : Int) (a0_4 : Int) (a1 : Int) (a2 : Int) : Option (Int × Int × Int × Int × Int × Int × Int × Int × Int) := some (layOf a0_0 a0_1 a0_2 a0_3 a0_4 a1 a2)
set_option maxHeartbeats 4000000 in
theorem postbagref20_Lay.good (a0_0 : Int) (a0_1 : Int) (a0_2 : Int) (a0_3 : Int) (a0_4 : Int) (a1 : Int) (a2 : Int) (r1 : Int) (r2 : Int) (r3 : Int) (r4 : Int) (r5 : Int) (r6 : Int) (r7 : Int) (r8 : Int) (r9 : Int) (w : World) (HL : Hid (layOf a0_0 a0_1 a0_2 a0_3 a0_4 a1 a2 = (r1, r2, r3, r4, r5, r6, r7, r8, r9)))
    (g : goodOf a0_0 a0_1 a0_2 a0_3 a0_4 = true) (v1 : 0 ≤ a1) (v2 : a1 ≤ 65536) (v3 : 1 ≤ a2) (v4 : a2 ≤ 256) :
    Calls Try.prog 9 #[.agg #[.int .i64 a0_0, .int .i64 a0_1, .int .i64 a0_2, .int .i64 a0_3, .int .i64 a0_4], .int .i64 a1, .int .i64 a2] w fun e w' => e = .returned (.tuple #[.agg #[.int .u64 r1, .int .u64 r2, .int .u64 r3, .int .u64 r4, .int .u64 r5, .int .u64 r6, .int .u64 r7, .int .i64 r8], .int .i64 r9]) ∧ Below w.heap.size w w' := by
  obtain ⟨⟨p1, p2⟩, ⟨g1, g2⟩, ⟨g3, g4⟩, ⟨g5, g6⟩, ⟨p3, p4⟩⟩ := goodOf_yes g
  have HG := Lib.hid g
  clear g
  go_enter Try.func9, Try.ntmps9
  go_wp2
  go_loopg [] ((4 * a1 + 63) / 64).toNat (fun kq w' => ∃ j : Int, 0 ≤ j ∧ j ≤ 4096 ∧ j + kq = (4 * a1 + 63) / 64 ∧ w' = (((w.alloc (Obj.cells #[Value.int IntKind.i64 a0_0, Value.int IntKind.i64 a0_1, Value.int IntKind.i64 a0_2, Value.int IntKind.i64 a0_3, Value.int IntKind.i64 a0_4] 23)).alloc (Obj.cells #[Value.int IntKind.u64 0, Value.int IntKind.u64 0, Value.int IntKind.u64 0, Value.int IntKind.u64 0, Value.int IntKind.u64 0, Value.int IntKind.u64 0, Value.int IntKind.u64 0, Value.int IntKind.i64 0] 26)).alloc (Obj.cells #[Value.int IntKind.i64 a0_0, Value.int IntKind.i64 a0_1, Value.int IntKind.i64 a0_2, Value.int IntKind.i64 a0_3, Value.int IntKind.i64 a0_4] 23)).alloc (Obj.cells #[Value.int IntKind.u64 0, Value.int IntKind.u64 (j * 64), Value.int IntKind.u64 0, Value.int IntKind.u64 0, Value.int IntKind.u64 0, Value.int IntKind.u64 0, Value.int IntKind.u64 0, Value.int IntKind.i64 a2] 26))
  case atStart => exact ⟨0, by omega, by omega, by omega, by simp⟩
  case round =>
    obtain ⟨j, j0, j1, j2, rfl⟩ := hrel
    by_cases hlt : j * 64 < 4 * a1
    · go_wp2
      go_roundg (gk - 1)
      case measure => omega
      case rel => exact ⟨j + 1, by omega, by omega, by omega, by rw [show (j + 1) * 64 = j * 64 + 64 from by omega]⟩
    · have hgl : j * 64 = glOf a1 := by unfold glOf; omega
      have HJ := Lib.hid hgl
      clear hgl
      go_wp2
      all_goals
        go_returns
        refine ⟨?_, by go_grown⟩
        go_light
        rw [HJ.out] at *
        clear HJ
      · have hbig : 16777216 < IntKind.u64.wrap (IntKind.u64.wrap (glOf a1 + 64 + IntKind.u64.wrap (a0_1 * (8 * (12 + a2 + 2 * a0_3)))) + 256 * a0_2) := by assumption
        rw [lay_v2 _ _ _ _ _ g1 g2 g3 g4 g5 g6 v1 v2 v3 v4] at hbig
        obtain ⟨rfl, rfl, rfl, rfl, rfl, rfl, rfl, rfl, rfl⟩ := lay_big HG.out v1 v2 v3 v4 hbig HL.out
        rfl
      · have hfit : IntKind.u64.wrap (IntKind.u64.wrap (glOf a1 + 64 + IntKind.u64.wrap (a0_1 * (8 * (12 + a2 + 2 * a0_3)))) + 256 * a0_2) ≤ 16777216 := by assumption
        rw [lay_v2 _ _ _ _ _ g1 g2 g3 g4 g5 g6 v1 v2 v3 v4] at hfit ⊢
        rw [lay_v1 _ _ _ _ g1 g2 g5 g6 v1 v2 v3 v4]
        obtain ⟨rfl, h2, h3, rfl, rfl, rfl, rfl, rfl, rfl⟩ := lay_fit HG.out v1 v2 v3 v4 hfit HL.out
        rw [show glOf a1 = r2 from by unfold glOf; omega, show r2 + 64 = r3 from by omega]
set_option maxHeartbeats 8000000 in
theorem postbagref20_Lay.calls (a0_0 : Int) (a0_1 : Int) (a0_2 : Int) (a0_3 : Int) (a0_4 : Int) (a1 : Int) (a2 : Int) (r1 : Int) (r2 : Int) (r3 : Int) (r4 : Int) (r5 : Int) (r6 : Int) (r7 : Int) (r8 : Int) (r9 : Int) (w : World) (h : postbagref20_Lay.f a0_0 a0_1 a0_2 a0_3 a0_4 a1 a2 = some (r1, r2, r3, r4, r5, r6, r7, r8, r9)) :
    Calls Try.prog 9 #[.agg #[.int .i64 a0_0, .int .i64 a0_1, .int .i64 a0_2, .int .i64 a0_3, .int .i64 a0_4], .int .i64 a1, .int .i64 a2] w fun e w' => e = .returned (.tuple #[.agg #[.int .u64 r1, .int .u64 r2, .int .u64 r3, .int .u64 r4, .int .u64 r5, .int .u64 r6, .int .u64 r7, .int .i64 r8], .int .i64 r9]) ∧ Below w.heap.size w w' := by
  have HL := Lib.hid (Option.some.inj h)
  clear h
  by_cases hg : goodOf a0_0 a0_1 a0_2 a0_3 a0_4 = true ∧ 0 ≤ a1 ∧ a1 ≤ 65536 ∧ 1 ≤ a2 ∧ a2 ≤ 256
  · exact postbagref20_Lay.good _ _ _ _ _ _ _ _ _ _ _ _ _ _ _ _ w HL hg.1 hg.2.1 hg.2.2.1 hg.2.2.2.1 hg.2.2.2.2
  · have HG := Lib.hid hg
    have hn : ¬ (((1 ≤ a0_0 ∧ a0_0 ≤ 8) ∧ (1 ≤ a0_1 ∧ a0_1 ≤ 64) ∧ (1 ≤ a0_2 ∧ a0_2 ≤ 256) ∧ (8 ≤ a0_3 ∧ a0_3 ≤ 1024) ∧ (1 ≤ a0_4 ∧ a0_4 ≤ 1000)) ∧ 0 ≤ a1 ∧ a1 ≤ 65536 ∧ 1 ≤ a2 ∧ a2 ≤ 256) := fun h => hg ⟨decide_eq_true h.1, h.2⟩
    clear hg
    go_enter Try.func9, Try.ntmps9
    by_cases d0 : a0_0 < 1
    · have d' : decide (1 ≤ a0_0) = false := decide_eq_false (by omega)
      clear hn
      go_wp2
      go_returns
      refine ⟨?_, by go_grown⟩
      obtain ⟨rfl, rfl, rfl, rfl, rfl, rfl, rfl, rfl, rfl⟩ := lay_bad HG.out HL.out
      rfl
    · replace d0 : 1 ≤ a0_0 := by omega
      by_cases e0 : 8 < a0_0
      · have d' : decide (a0_0 ≤ 8) = false := decide_eq_false (by omega)
        clear hn
        go_wp2
        go_returns
        refine ⟨?_, by go_grown⟩
        obtain ⟨rfl, rfl, rfl, rfl, rfl, rfl, rfl, rfl, rfl⟩ := lay_bad HG.out HL.out
        rfl
      · replace e0 : a0_0 ≤ 8 := by omega
        by_cases d1 : a0_1 < 1
        · have d' : decide (1 ≤ a0_1) = false := decide_eq_false (by omega)
          clear hn
          go_wp2
          go_returns
          refine ⟨?_, by go_grown⟩
          obtain ⟨rfl, rfl, rfl, rfl, rfl, rfl, rfl, rfl, rfl⟩ := lay_bad HG.out HL.out
          rfl
        · replace d1 : 1 ≤ a0_1 := by omega
          by_cases e1 : 64 < a0_1
          · have d' : decide (a0_1 ≤ 64) = false := decide_eq_false (by omega)
            clear hn
            go_wp2
            go_returns
            refine ⟨?_, by go_grown⟩
            obtain ⟨rfl, rfl, rfl, rfl, rfl, rfl, rfl, rfl, rfl⟩ := lay_bad HG.out HL.out
            rfl
          · replace e1 : a0_1 ≤ 64 := by omega
            by_cases d2 : a0_2 < 1
            · have d' : decide (1 ≤ a0_2) = false := decide_eq_false (by omega)
              clear hn
              go_wp2
              go_returns
              refine ⟨?_, by go_grown⟩
              obtain ⟨rfl, rfl, rfl, rfl, rfl, rfl, rfl, rfl, rfl⟩ := lay_bad HG.out HL.out
              rfl
            · replace d2 : 1 ≤ a0_2 := by omega
              by_cases e2 : 256 < a0_2
              · have d' : decide (a0_2 ≤ 256) = false := decide_eq_false (by omega)
                clear hn
                go_wp2
                go_returns
                refine ⟨?_, by go_grown⟩
                obtain ⟨rfl, rfl, rfl, rfl, rfl, rfl, rfl, rfl, rfl⟩ := lay_bad HG.out HL.out
                rfl
              · replace e2 : a0_2 ≤ 256 := by omega
                by_cases d3 : a0_3 < 8
                · have d' : decide (8 ≤ a0_3) = false := decide_eq_false (by omega)
                  clear hn
                  go_wp2
                  go_returns
                  refine ⟨?_, by go_grown⟩
                  obtain ⟨rfl, rfl, rfl, rfl, rfl, rfl, rfl, rfl, rfl⟩ := lay_bad HG.out HL.out
                  rfl
                · replace d3 : 8 ≤ a0_3 := by omega
                  by_cases e3 : 1024 < a0_3
                  · have d' : decide (a0_3 ≤ 1024) = false := decide_eq_false (by omega)
                    clear hn
                    go_wp2
                    go_returns
                    refine ⟨?_, by go_grown⟩
                    obtain ⟨rfl, rfl, rfl, rfl, rfl, rfl, rfl, rfl, rfl⟩ := lay_bad HG.out HL.out
                    rfl
                  · replace e3 : a0_3 ≤ 1024 := by omega
                    by_cases d4 : a0_4 < 1
                    · have d' : decide (1 ≤ a0_4) = false := decide_eq_false (by omega)
                      clear hn
                      go_wp2
                      go_returns
                      refine ⟨?_, by go_grown⟩
                      obtain ⟨rfl, rfl, rfl, rfl, rfl, rfl, rfl, rfl, rfl⟩ := lay_bad HG.out HL.out
                      rfl
                    · replace d4 : 1 ≤ a0_4 := by omega
                      by_cases e4 : 1000 < a0_4
                      · have d' : decide (a0_4 ≤ 1000) = false := decide_eq_false (by omega)
                        clear hn
                        go_wp2
                        go_returns
                        refine ⟨?_, by go_grown⟩
                        obtain ⟨rfl, rfl, rfl, rfl, rfl, rfl, rfl, rfl, rfl⟩ := lay_bad HG.out HL.out
                        rfl
                      · replace e4 : a0_4 ≤ 1000 := by omega
                        by_cases d5 : a1 < 0
                        · have d' : decide (0 ≤ a1) = false := decide_eq_false (by omega)
                          clear hn
                          go_wp2
                          go_returns
                          refine ⟨?_, by go_grown⟩
                          obtain ⟨rfl, rfl, rfl, rfl, rfl, rfl, rfl, rfl, rfl⟩ := lay_bad HG.out HL.out
                          rfl
                        · replace d5 : 0 ≤ a1 := by omega
                          by_cases e5 : 65536 < a1
                          · have d' : decide (a1 ≤ 65536) = false := decide_eq_false (by omega)
                            clear hn
                            go_wp2
                            go_returns
                            refine ⟨?_, by go_grown⟩
                            obtain ⟨rfl, rfl, rfl, rfl, rfl, rfl, rfl, rfl, rfl⟩ := lay_bad HG.out HL.out
                            rfl
                          · replace e5 : a1 ≤ 65536 := by omega
                            by_cases d6 : a2 < 1
                            · have d' : decide (1 ≤ a2) = false := decide_eq_false (by omega)
                              clear hn
                              go_wp2
                              go_returns
                              refine ⟨?_, by go_grown⟩
                              obtain ⟨rfl, rfl, rfl, rfl, rfl, rfl, rfl, rfl, rfl⟩ := lay_bad HG.out HL.out
                              rfl
                            · replace d6 : 1 ≤ a2 := by omega
                              by_cases e6 : 256 < a2
                              · have d' : decide (a2 ≤ 256) = false := decide_eq_false (by omega)
                                clear hn
                                go_wp2
                                go_returns
                                refine ⟨?_, by go_grown⟩
                                obtain ⟨rfl, rfl, rfl, rfl, rfl, rfl, rfl, rfl, rfl⟩ := lay_bad HG.out HL.out
                                rfl
                              · exact absurd hn (by omega)

theorem postbagref20_Lay.c (a0_0 : Int) (a0_1 : Int) (a0_2 : Int) (a0_3 : Int) (a0_4 : Int) (a1 : Int) (a2 : Int) (r1 : Int) (r2 : Int) (r3 : Int) (r4 : Int) (r5 : Int) (r6 : Int) (r7 : Int) (r8 : Int) (r9 : Int) (w : World) (h : layOf a0_0 a0_1 a0_2 a0_3 a0_4 a1 a2 = (r1, r2, r3, r4, r5, r6, r7, r8, r9)) :
    Calls Try.prog 9 #[.agg #[.int .i64 a0_0, .int .i64 a0_1, .int .i64 a0_2, .int .i64 a0_3, .int .i64 a0_4], .int .i64 a1, .int .i64 a2] w fun e w' => e = .returned (.tuple #[.agg #[.int .u64 r1, .int .u64 r2, .int .u64 r3, .int .u64 r4, .int .u64 r5, .int .u64 r6, .int .u64 r7, .int .i64 r8], .int .i64 r9]) ∧ Below w.heap.size w w' := postbagref20_Lay.calls _ _ _ _ _ _ _ _ _ _ _ _ _ _ _ _ w (congrArg some h)



/-! ### image_Actor: function 12 -/
def image_Actor.f (a0_0 : Int) (a0_1 : Int) (a0_2 : Int) (a0_3 : Int) (a0_4 : Int) (a0_5 : Int) (a0_6 : Int) (a0_7 : Int) (a1 : Int) : Option (Int) := some (IntKind.u64.wrap (a0_2 + (IntKind.u64.wrap ((IntKind.u64.wrap (a1)) * a0_3))))
set_option maxHeartbeats 8000000 in
set_option maxRecDepth 100000 in
theorem image_Actor.calls (a0_0 : Int) (a0_1 : Int) (a0_2 : Int) (a0_3 : Int) (a0_4 : Int) (a0_5 : Int) (a0_6 : Int) (a0_7 : Int) (a1 : Int) (r : Int) (w : World) (h : image_Actor.f a0_0 a0_1 a0_2 a0_3 a0_4 a0_5 a0_6 a0_7 a1 = some r) :
    Calls Try.prog 12 #[.agg #[.int .u64 a0_0, .int .u64 a0_1, .int .u64 a0_2, .int .u64 a0_3, .int .u64 a0_4, .int .u64 a0_5, .int .u64 a0_6, .int .i64 a0_7], .int .i64 a1] w fun e w' => e = .returned (.int .u64 r) ∧ Below w.heap.size w w' := by
  have hu26 := Try.underlying26
  have HB := Aside0.mk (Below.refl w.heap.size w)
  have H : (some (IntKind.u64.wrap (a0_2 + (IntKind.u64.wrap ((IntKind.u64.wrap (a1)) * a0_3))))) = some r := h
  clear h
  obtain rfl := Option.some.inj H
  go_enter Try.func12, Try.ntmps12
  go_wp2_with (first | ((with_reducible refine gate_dst (N := 2) rfl ?_); refine box_event ?hg (N := 2) ?hd (cs := #[.int .u64 a0_0, .int .u64 a0_1, .int .u64 a0_2, .int .u64 a0_3, .int .u64 a0_4, .int .u64 a0_5, .int .u64 a0_6, .int .i64 a0_7]) (t := 26) ?hr ?_; (case hd => rfl); (case hg => rfl); (case hr => first | (go_simp; done) | (go_simp; rfl)); intro gb117 hg w3 hbox hb; have n0_ := Aside0.mk (below_step (by repeat (first | (with_reducible first | exact HB.out | apply below_alloc | apply pw_below_drewN | apply below_drew1) | exact HB.out)) hb); have n1_ := Aside0.mk (hbox); have n2_ := Aside0.mk ((by rw [hg]; exact (below_size (by repeat (first | (with_reducible first | exact HB.out | apply below_alloc | apply pw_below_drewN | apply below_drew1) | exact HB.out))) : w.heap.size ≤ gb117)); have n3_ := Aside0.mk ((by rw [hg]; exact (below_size (by repeat (first | (with_reducible first | exact HB.out | apply below_alloc | apply pw_below_drewN | apply below_drew1) | exact HB.out))) : w.heap.size ≤ gb117)); clear HB; have HB := n0_; have BK117 := n1_; have GW117 := n2_; have GE117 := n3_; clear n0_ n1_ n2_ n3_; clear hb hbox hg; have hcz4_0 : w3.cell? ⟨gb117, 0, none⟩ = some (.int .u64 a0_0) := (blk_cell BK117.out 0).trans rfl; have hcz4_1 : w3.cell? ⟨gb117, 1, none⟩ = some (.int .u64 a0_1) := (blk_cell BK117.out 1).trans rfl; have hcz4_2 : w3.cell? ⟨gb117, 2, none⟩ = some (.int .u64 a0_2) := (blk_cell BK117.out 2).trans rfl; have hcz4_3 : w3.cell? ⟨gb117, 3, none⟩ = some (.int .u64 a0_3) := (blk_cell BK117.out 3).trans rfl; have hcz4_4 : w3.cell? ⟨gb117, 4, none⟩ = some (.int .u64 a0_4) := (blk_cell BK117.out 4).trans rfl; have hcz4_5 : w3.cell? ⟨gb117, 5, none⟩ = some (.int .u64 a0_5) := (blk_cell BK117.out 5).trans rfl; have hcz4_6 : w3.cell? ⟨gb117, 6, none⟩ = some (.int .u64 a0_6) := (blk_cell BK117.out 6).trans rfl; have hcz4_7 : w3.cell? ⟨gb117, 7, none⟩ = some (.int .i64 a0_7) := (blk_cell BK117.out 7).trans rfl; have hfz4_0 := blk_frozen BK117.out 0; have hfz4_1 := blk_frozen BK117.out 1; have hfz4_2 := blk_frozen BK117.out 2; have hfz4_3 := blk_frozen BK117.out 3; have hfz4_4 := blk_frozen BK117.out 4; have hfz4_5 := blk_frozen BK117.out 5; have hfz4_6 := blk_frozen BK117.out 6; have hfz4_7 := blk_frozen BK117.out 7))
  go_ret
  exact ⟨by first | rfl | (simp [errW_none, errW_some] <;> rfl) | (simp [*, errW_none, errW_some] <;> rfl), by repeat (first | (with_reducible first | exact HB.out | apply below_alloc | apply pw_below_drewN | apply below_drew1 | refine below_set ?_ GE117.out) | exact HB.out)⟩

/-! ### image_Block: function 13 -/
def image_Block.f (a0_0 : Int) (a0_1 : Int) (a0_2 : Int) (a0_3 : Int) (a0_4 : Int) (a0_5 : Int) (a0_6 : Int) (a0_7 : Int) (a1 : Int) : Option (Int) := some (IntKind.u64.wrap (a0_4 + (IntKind.u64.wrap ((IntKind.u64.wrap (a1)) * a0_5))))
set_option maxHeartbeats 8000000 in
set_option maxRecDepth 100000 in
theorem image_Block.calls (a0_0 : Int) (a0_1 : Int) (a0_2 : Int) (a0_3 : Int) (a0_4 : Int) (a0_5 : Int) (a0_6 : Int) (a0_7 : Int) (a1 : Int) (r : Int) (w : World) (h : image_Block.f a0_0 a0_1 a0_2 a0_3 a0_4 a0_5 a0_6 a0_7 a1 = some r) :
    Calls Try.prog 13 #[.agg #[.int .u64 a0_0, .int .u64 a0_1, .int .u64 a0_2, .int .u64 a0_3, .int .u64 a0_4, .int .u64 a0_5, .int .u64 a0_6, .int .i64 a0_7], .int .i64 a1] w fun e w' => e = .returned (.int .u64 r) ∧ Below w.heap.size w w' := by
  have hu26 := Try.underlying26
  have HB := Aside0.mk (Below.refl w.heap.size w)
  have H : (some (IntKind.u64.wrap (a0_4 + (IntKind.u64.wrap ((IntKind.u64.wrap (a1)) * a0_5))))) = some r := h
  clear h
  obtain rfl := Option.some.inj H
  go_enter Try.func13, Try.ntmps13
  go_wp2_with (first | ((with_reducible refine gate_dst (N := 2) rfl ?_); refine box_event ?hg (N := 2) ?hd (cs := #[.int .u64 a0_0, .int .u64 a0_1, .int .u64 a0_2, .int .u64 a0_3, .int .u64 a0_4, .int .u64 a0_5, .int .u64 a0_6, .int .i64 a0_7]) (t := 26) ?hr ?_; (case hd => rfl); (case hg => rfl); (case hr => first | (go_simp; done) | (go_simp; rfl)); intro gb118 hg w3 hbox hb; have n0_ := Aside0.mk (below_step (by repeat (first | (with_reducible first | exact HB.out | apply below_alloc | apply pw_below_drewN | apply below_drew1) | exact HB.out)) hb); have n1_ := Aside0.mk (hbox); have n2_ := Aside0.mk ((by rw [hg]; exact (below_size (by repeat (first | (with_reducible first | exact HB.out | apply below_alloc | apply pw_below_drewN | apply below_drew1) | exact HB.out))) : w.heap.size ≤ gb118)); have n3_ := Aside0.mk ((by rw [hg]; exact (below_size (by repeat (first | (with_reducible first | exact HB.out | apply below_alloc | apply pw_below_drewN | apply below_drew1) | exact HB.out))) : w.heap.size ≤ gb118)); clear HB; have HB := n0_; have BK118 := n1_; have GW118 := n2_; have GE118 := n3_; clear n0_ n1_ n2_ n3_; clear hb hbox hg; have hcz4_0 : w3.cell? ⟨gb118, 0, none⟩ = some (.int .u64 a0_0) := (blk_cell BK118.out 0).trans rfl; have hcz4_1 : w3.cell? ⟨gb118, 1, none⟩ = some (.int .u64 a0_1) := (blk_cell BK118.out 1).trans rfl; have hcz4_2 : w3.cell? ⟨gb118, 2, none⟩ = some (.int .u64 a0_2) := (blk_cell BK118.out 2).trans rfl; have hcz4_3 : w3.cell? ⟨gb118, 3, none⟩ = some (.int .u64 a0_3) := (blk_cell BK118.out 3).trans rfl; have hcz4_4 : w3.cell? ⟨gb118, 4, none⟩ = some (.int .u64 a0_4) := (blk_cell BK118.out 4).trans rfl; have hcz4_5 : w3.cell? ⟨gb118, 5, none⟩ = some (.int .u64 a0_5) := (blk_cell BK118.out 5).trans rfl; have hcz4_6 : w3.cell? ⟨gb118, 6, none⟩ = some (.int .u64 a0_6) := (blk_cell BK118.out 6).trans rfl; have hcz4_7 : w3.cell? ⟨gb118, 7, none⟩ = some (.int .i64 a0_7) := (blk_cell BK118.out 7).trans rfl; have hfz4_0 := blk_frozen BK118.out 0; have hfz4_1 := blk_frozen BK118.out 1; have hfz4_2 := blk_frozen BK118.out 2; have hfz4_3 := blk_frozen BK118.out 3; have hfz4_4 := blk_frozen BK118.out 4; have hfz4_5 := blk_frozen BK118.out 5; have hfz4_6 := blk_frozen BK118.out 6; have hfz4_7 := blk_frozen BK118.out 7))
  go_ret
  exact ⟨by first | rfl | (simp [errW_none, errW_some] <;> rfl) | (simp [*, errW_none, errW_some] <;> rfl), by repeat (first | (with_reducible first | exact HB.out | apply below_alloc | apply pw_below_drewN | apply below_drew1 | refine below_set ?_ GE118.out) | exact HB.out)⟩

/-! ### postbaglaw20_ImageLays: function 4 -/
theorem image_Actor.x (a0_0 : Int) (a0_1 : Int) (a0_2 : Int) (a0_3 : Int) (a0_4 : Int) (a0_5 : Int) (a0_6 : Int) (a0_7 : Int) (a1 : Int) (x : Int) (h : IntKind.u64.wrap (a0_2 + (IntKind.u64.wrap ((IntKind.u64.wrap (a1)) * a0_3))) = x) (w : World) :
    Calls Try.prog 12 #[.agg #[.int .u64 a0_0, .int .u64 a0_1, .int .u64 a0_2, .int .u64 a0_3, .int .u64 a0_4, .int .u64 a0_5, .int .u64 a0_6, .int .i64 a0_7], .int .i64 a1] w fun e w' => e = .returned (.int .u64 x) ∧ Below w.heap.size w w' := image_Actor.calls _ _ _ _ _ _ _ _ _ _ w (congrArg some h)
theorem image_Block.x (a0_0 : Int) (a0_1 : Int) (a0_2 : Int) (a0_3 : Int) (a0_4 : Int) (a0_5 : Int) (a0_6 : Int) (a0_7 : Int) (a1 : Int) (x : Int) (h : IntKind.u64.wrap (a0_4 + (IntKind.u64.wrap ((IntKind.u64.wrap (a1)) * a0_5))) = x) (w : World) :
    Calls Try.prog 13 #[.agg #[.int .u64 a0_0, .int .u64 a0_1, .int .u64 a0_2, .int .u64 a0_3, .int .u64 a0_4, .int .u64 a0_5, .int .u64 a0_6, .int .i64 a0_7], .int .i64 a1] w fun e w' => e = .returned (.int .u64 x) ∧ Below w.heap.size w w' := image_Block.calls _ _ _ _ _ _ _ _ _ _ w (congrArg some h)
set_option maxHeartbeats 4000000 in
theorem postbaglaw20_ImageLays.all (a0_0 : Int) (a0_1 : Int) (a0_2 : Int) (a0_3 : Int) (a0_4 : Int) (a1 : Int) (a2 : Int) (a3 : Int) (w : World) :
    Calls Try.prog 4 #[.agg #[.int .i64 a0_0, .int .i64 a0_1, .int .i64 a0_2, .int .i64 a0_3, .int .i64 a0_4], .int .i64 a1, .int .i64 a2, .int .i64 a3] w fun e w' => e = .returned (.bool true) ∧ Below w.heap.size w w' := by
  obtain ⟨r1, r2, r3, r4, r5, r6, r7, r8, r9, hr⟩ : ∃ r1 r2 r3 r4 r5 r6 r7 r8 r9, layOf a0_0 a0_1 a0_2 a0_3 a0_4 a1 a2 = (r1, r2, r3, r4, r5, r6, r7, r8, r9) := ⟨_, _, _, _, _, _, _, _, _, rfl⟩
  have HR := Lib.hid hr
  clear hr
  go_enter Try.func4, Try.ntmps4
  go_wp2_with fail
  refine (image_Lay.c _ _ _ _ _ _ _ _ _ _ _ _ _ _ _ _ _ HR.out).mono ?_
  rintro e w1 ⟨rfl, hb1⟩
  have B1 := (Blk.new w _ _).below hb1
  have c1 := B1.cell
  have l1 := B1.lt
  have HB1 := Lib.hid hb1
  have HBl1 := Lib.hid B1
  clear hb1 B1
  go_wp2_with fail
  refine (postbagref20_Lay.c _ _ _ _ _ _ _ _ _ _ _ _ _ _ _ _ _ HR.out).mono ?_
  rintro e w2 ⟨rfl, hb2⟩
  have B2 := (HBl1.out.alloc _).below hb2
  have D2 := (Blk.new w1 _ _).below hb2
  have HB2 := Lib.hid hb2
  clear hb2 c1 l1
  have c2 := B2.cell
  have l2 := B2.lt
  have d2 := D2.cell
  have m2 := D2.lt
  have HBB := Lib.hid B2
  have HDD := Lib.hid D2
  clear B2 D2
  go_wp2_with fail
  generalize hX : World.alloc w2 _ = X
  have K1 := HBB.out.alloc_eq hX
  have K2 := HDD.out.alloc_eq hX
  have K3 := Blk.new_eq hX
  have HX := Lib.hid hX
  clear hX c2 l2 d2 m2
  have k1 := K1.gcell
  have k2 := K2.gcell
  have k3 := K3.gcell
  clear K1 K2 K3
  refine wp_region_quiet_below (by kernel_rfl) (by kernel_rfl) ?_
  repeat (any_goals (first | go_big_quiet_step ((first | exact in_grow (image_Good.c _ _ _ _ _) _ _ | exact in_grow (postbagref20_Good.c _ _ _ _ _) _ _ | exact in_grow (image_Actor.x _ _ _ _ _ _ _ _ _ _ rfl) _ _ | exact in_grow (image_Block.x _ _ _ _ _ _ _ _ _ _ rfl) _ _ | exact in_grow postbaglaw20_lives.c _ _)) | quiet_step ((first | exact in_grow (image_Good.c _ _ _ _ _) _ _ | exact in_grow (postbagref20_Good.c _ _ _ _ _) _ _ | exact in_grow (image_Actor.x _ _ _ _ _ _ _ _ _ _ rfl) _ _ | exact in_grow (image_Block.x _ _ _ _ _ _ _ _ _ _ rfl) _ _ | exact in_grow postbaglaw20_lives.c _ _))))
  refine wpQuiet_nil ?_
  intro _ hw'
  obtain ⟨⟨dq, osq⟩, hw''⟩ := hw'
  subst hw''
  go_wp2
  go_ret
  have hb1 := HB1.out
  have hb2 := HB2.out
  have hX := HX.out
  clear k1 k2 k3
  have z0 : w.heap.size ≤ w1.heap.size := Nat.le_trans (by simp) hb1.size
  have z1 : w1.heap.size ≤ w2.heap.size := Nat.le_trans (by simp) hb2.size
  have t1 : Below w.heap.size w w1 := ((Below.refl _ _).alloc (Nat.le_refl _) _).trans (hb1.mono (by simp))
  have t2 : Below w.heap.size w w2 := (t1.alloc z0 _).trans (hb2.mono (by simp; omega))
  have t3 : Below w.heap.size w X := below_alloc_eq t2 (by omega) hX
  have t4 : Below w.heap.size w (Sort.grow (redrawn X dq) osq) := t3.trans ((below_regrown X dq osq).mono (t3.size))
  exact ⟨by simp, t4⟩




/-! ### postbaglaw20_ImageApart: function 5 -/
set_option maxHeartbeats 4000000 in
theorem ImageApart_ok (a0_0 : Int) (a0_1 : Int) (a0_2 : Int) (a0_3 : Int) (a0_4 : Int) (a1 : Int) (a2 : Int) (a3 : Int) (a4 : Int) (w : World) (x y r2 r3 r4 r5 r7 : Int) (HR : Hid (layOf a0_0 a0_1 a0_2 a0_3 a0_4 a1 a2 = (0, r2, r3, r4, r5, 256, r7, a2, 0)))
   (p1 : 1 ≤ a0_1) (p2 : a0_1 ≤ 64) (p3 : 1 ≤ a0_2) (p4 : a0_2 ≤ 256) (v1 : 0 ≤ a1) (v2 : a1 ≤ 65536)
   (HX : Hid (IntKind.u64.wrap (r3 + IntKind.u64.wrap (IntKind.u64.wrap (wrap64 ((IntKind.u64.wrap a3).tmod a0_1)) * r4)) = x))
   (HY : Hid (IntKind.u64.wrap (r5 + IntKind.u64.wrap (IntKind.u64.wrap (wrap64 ((IntKind.u64.wrap a4).tmod a0_2)) * 256)) = y))
   (q0 : 0 ≤ r2) (q1 : 4 * a1 ≤ r2) (HQ2 : Hid (r2 % 64 = 0)) (q3 : r2 + 64 ≤ x) (q4 : 0 ≤ r4) (q5 : x + r4 ≤ r5) (q6 : r5 ≤ y) (q7 : y + 256 ≤ r7) (q8 : r7 ≤ 16777216) (HX8 : Hid (x % 8 = 0)) (HY8 : Hid (y % 8 = 0)) :
    Calls Try.prog 5 #[.agg #[.int .i64 a0_0, .int .i64 a0_1, .int .i64 a0_2, .int .i64 a0_3, .int .i64 a0_4], .int .i64 a1, .int .i64 a2, .int .i64 a3, .int .i64 a4] w fun e w' => e = .returned (.bool true) ∧ Below w.heap.size w w' := by
  have hm1 : (if 1 < a0_1 then a0_1 else (1 : Int)) = a0_1 := by split <;> omega
  have hm2 : (if 1 < a0_2 then a0_2 else (1 : Int)) = a0_2 := by split <;> omega
  go_enter Try.func5, Try.ntmps5
  go_wp2_with fail
  refine (image_Lay.c _ _ _ _ _ _ _ _ _ _ _ _ _ _ _ _ _ HR.out).mono ?_
  rintro e w1 ⟨rfl, hb1⟩
  have B1 := (Blk.new w _ _).below hb1
  have c1 := B1.cell
  have l1 := B1.lt
  have HB1 := Lib.hid hb1
  have HBl1 := Lib.hid B1
  clear hb1 B1
  go_wp2_with fail
  generalize hX : World.alloc w1 _ = X
  have K1 := HBl1.out.alloc_eq hX
  have K2 := Blk.new_eq hX
  have HWX := Lib.hid hX
  clear hX c1 l1
  have k1 := K1.gcell
  have k2 := K2.gcell
  have HK1 := Lib.hid K1
  have HK2 := Lib.hid K2
  clear K1 K2
  refine wp_region_quiet_below (by kernel_rfl) (by kernel_rfl) ?_
  repeat (any_goals (first | go_big_quiet_step ((fail)) | quiet_step ((fail))))
  refine wpQuiet_nil ?_
  intro _ hw'
  obtain ⟨⟨dq, osq⟩, hw''⟩ := hw'
  subst hw''
  clear k1 k2
  go_wp2_with fail
  generalize hY : Sort.grow (redrawn X dq) osq = Y
  have L1 := HK1.out.grow_eq hY
  have L2 := HK2.out.grow_eq hY
  have HWY := Lib.hid hY
  clear hY
  have k1 := L1.gcell
  have k2 := L2.gcell
  have HL1 := Lib.hid L1
  have HL2 := Lib.hid L2
  clear L1 L2
  refine wp_region_quiet_below (by kernel_rfl) (by kernel_rfl) ?_
  repeat (any_goals (first | go_big_quiet_step ((first | exact in_grow (image_Actor.x _ _ _ _ _ _ _ _ _ _ HX.out) _ _ | exact in_grow (image_Block.x _ _ _ _ _ _ _ _ _ _ HY.out) _ _)) | quiet_step ((first | exact in_grow (image_Actor.x _ _ _ _ _ _ _ _ _ _ HX.out) _ _ | exact in_grow (image_Block.x _ _ _ _ _ _ _ _ _ _ HY.out) _ _))))
  refine wpQuiet_nil ?_
  intro _ hw'
  obtain ⟨⟨dr, osr⟩, hw''⟩ := hw'
  subst hw''
  clear k1 k2
  have k1 := fun i => (HL1.out.grow dr osr).cell i
  have k2 := fun i => (HL2.out.grow dr osr).cell i
  have e2 : (r2 % 64 == 0) = true := by rw [HQ2.out]; rfl
  have ex : (x % 8 == 0) = true := by rw [HX8.out]; rfl
  have ey : (y % 8 == 0) = true := by rw [HY8.out]; rfl
  go_wp2_with fail
  refine (postbaglaw20_lives.c _).mono ?_
  rintro e w9 ⟨rfl, hb9⟩
  have HB9 := Lib.hid hb9
  clear hb9 k1 k2
  go_wp2_with fail
  go_ret
  have hb1 := HB1.out
  have hX := HWX.out
  have hY := HWY.out
  have z0 : w.heap.size ≤ w1.heap.size := Nat.le_trans (by simp) hb1.size
  have t1 : Below w.heap.size w w1 := ((Below.refl _ _).alloc (Nat.le_refl _) _).trans (hb1.mono (by simp))
  have t2 : Below w.heap.size w X := below_alloc_eq t1 z0 hX
  have t3 : Below w.heap.size w Y := below_grow_eq t2 t2.size hY
  have t4 : Below w.heap.size w (Sort.grow (redrawn Y dr) osr) := t3.trans ((below_regrown Y dr osr).mono t3.size)
  exact ⟨rfl, t4.trans (HB9.out.mono t4.size)⟩
set_option maxHeartbeats 4000000 in
theorem ImageApart_bad (a0_0 : Int) (a0_1 : Int) (a0_2 : Int) (a0_3 : Int) (a0_4 : Int) (a1 : Int) (a2 : Int) (a3 : Int) (a4 : Int) (w : World) (z : Int) (z0 : (z == 0) = false) (z1 : (z != 0) = true) (HR : Hid (layOf a0_0 a0_1 a0_2 a0_3 a0_4 a1 a2 = (0, 0, 0, 0, 0, 0, 0, 0, z))) :
    Calls Try.prog 5 #[.agg #[.int .i64 a0_0, .int .i64 a0_1, .int .i64 a0_2, .int .i64 a0_3, .int .i64 a0_4], .int .i64 a1, .int .i64 a2, .int .i64 a3, .int .i64 a4] w fun e w' => e = .returned (.bool true) ∧ Below w.heap.size w w' := by
  go_enter Try.func5, Try.ntmps5
  go_wp2_with fail
  refine (image_Lay.c _ _ _ _ _ _ _ _ _ _ _ _ _ _ _ _ _ HR.out).mono ?_
  rintro e w1 ⟨rfl, hb1⟩
  have HB1 := Lib.hid hb1
  clear hb1
  go_wp2_with fail
  refine (postbaglaw20_lives.c _).mono ?_
  rintro e w9 ⟨rfl, hb9⟩
  have HB9 := Lib.hid hb9
  clear hb9
  go_wp2_with fail
  go_ret
  have hb1 := HB1.out
  have z0 : w.heap.size ≤ w1.heap.size := Nat.le_trans (by simp) hb1.size
  have t1 : Below w.heap.size w w1 := ((Below.refl _ _).alloc (Nat.le_refl _) _).trans (hb1.mono (by simp))
  have t2 := fun o => t1.alloc z0 o
  exact ⟨rfl, (t2 _).trans (HB9.out.mono (by simp; omega))⟩
theorem postbaglaw20_ImageApart.all (a0_0 : Int) (a0_1 : Int) (a0_2 : Int) (a0_3 : Int) (a0_4 : Int) (a1 : Int) (a2 : Int) (a3 : Int) (a4 : Int) (w : World) :
    Calls Try.prog 5 #[.agg #[.int .i64 a0_0, .int .i64 a0_1, .int .i64 a0_2, .int .i64 a0_3, .int .i64 a0_4], .int .i64 a1, .int .i64 a2, .int .i64 a3, .int .i64 a4] w fun e w' => e = .returned (.bool true) ∧ Below w.heap.size w w' := by
  rcases lay_cases a0_0 a0_1 a0_2 a0_3 a0_4 a1 a2 with ⟨hg, v1, v2, v3, v4, he, hl⟩ | hl | hl
  · obtain ⟨-, ⟨g1, g2⟩, ⟨g3, g4⟩, ⟨g5, g6⟩, -⟩ := goodOf_yes hg
    have i1 := index_in a3 a0_1 g1 (by omega)
    have i2 := index_in a4 a0_2 g3 (by omega)
    obtain ⟨x, y, r2, r4, r5, r7, hx, hy, e2, e4, e5, e7, q0, q1, q2, q3, q4, q5, q6, q7, q8, q9, q10⟩ := lay_apart a0_0 a0_1 a0_2 a0_3 a0_4 a1 a2 _ _ hg v1 v2 v3 v4 he i1.1 i1.2 i2.1 i2.2
    rw [e2, e4, e5, e7] at hl
    rw [e2, e4] at hx
    rw [e5] at hy
    exact ImageApart_ok _ _ _ _ _ _ _ _ _ w x y r2 (r2 + 64) r4 r5 r7 (Lib.hid hl) g1 g2 g3 g4 v1 v2 (Lib.hid hx) (Lib.hid hy) q0 q1 (Lib.hid q2) q3 q4 q5 q6 q7 q8 (Lib.hid q9) (Lib.hid q10)
  · exact ImageApart_bad _ _ _ _ _ _ _ _ _ w 2 (by decide) (by decide) (Lib.hid hl)
  · exact ImageApart_bad _ _ _ _ _ _ _ _ _ w 200 (by decide) (by decide) (Lib.hid hl)


-- NOT PRINTED: function 20 (memory_New)

-- NOT PRINTED: function 25 (memory_Memory_none)

-- NOT PRINTED: function 24 (memory_Memory_part)

-- NOT PRINTED: function 26 (memory_Memory_number)

-- NOT PRINTED: function 21 (memory_Memory_Store)

-- NOT PRINTED: function 14 (image_Build)

-- NOT PRINTED: function 22 (postbagref05_New)

/-- A state of type 50 at block g of W; what its slices lead to came in by w0. -/
def IsS50 (w0 W : World) (g : Nat) (f0 : List Int) : Prop := ∃ A0 c0, W.heap[g]? = some (.cells #[.slice A0 f0.length c0] 50 (0, 0)) ∧ w0.heap.size ≤ g ∧ Kd.C (Kd.int .u8) w0 A0 f0.length f0
theorem IsS50.grown {w0 W : World} {g : Nat} {f0 : List Int} {W1 : World} {row : Option Nat} (h : IsS50 w0 W g f0) (hw : W.grownBy W1 row) (hne : some g ≠ row) : IsS50 w0 W1 g f0 := by
  obtain ⟨A0, c0, hb, hg, hr0⟩ := h
  exact ⟨A0, c0, blk_grown hb hw hne, hg, hr0⟩
theorem IsS50.own_neN {w0 W : World} {g : Nat} {f0 : List Int} {α : Type} {d : Kd α} {e : Nat} {base : Nat} {ok : Nat → Prop} {v : Value} {xs : List α} (h : IsS50 w0 W g f0) (ho : Kd.N d e W base ok v xs) (ht : e ≠ 50) : some g ≠ v.ownBlock := by
  obtain ⟨A0, c0, hb, hg, hr0⟩ := h
  exact Kd.N_ne ho hb ht
theorem IsS50.fresh {w0 W : World} {g : Nat} {f0 : List Int} (h : IsS50 w0 W g f0) : ∀ k, W.heap.size ≤ k → k ≠ g := by
  obtain ⟨A0, c0, hb, hg, hr0⟩ := h
  exact Kd.freshB hb
theorem IsS50.kept {w0 W : World} {g : Nat} {f0 : List Int} {W1 : World} {S : Nat → Prop} (h : IsS50 w0 W g f0) (hk : Kept W W1 S) (hne : ¬ S g) : IsS50 w0 W1 g f0 := by
  obtain ⟨A0, c0, hb, hg, hr0⟩ := h
  exact ⟨A0, c0, blk_kept hb hk hne, hg, hr0⟩
theorem IsS50.below {w0 W : World} {g : Nat} {f0 : List Int} {W1 : World} (h : IsS50 w0 W g f0) (hw : Below W.heap.size W W1) : IsS50 w0 W1 g f0 := h.grown (grown_of_below hw none) (by simp)
theorem IsS50.alloc {w0 W : World} {g : Nat} {f0 : List Int} (h : IsS50 w0 W g f0) (o : Obj) : IsS50 w0 (W.alloc o) g f0 := h.below (below_alloc (Below.refl _ _) o)
theorem IsS50.drewN {w0 W : World} {g : Nat} {f0 : List Int} (h : IsS50 w0 W g f0) (m : Nat) : IsS50 w0 (W.drewN m) g f0 := h
theorem IsS50.drew {w0 W : World} {g : Nat} {f0 : List Int} (h : IsS50 w0 W g f0) : IsS50 w0 W.drew g f0 := h
theorem IsS50.at_ {w0 W : World} {g : Nat} {f0 : List Int} {w' : World} {m : Nat} (hq : W.drewN m = w') (h : IsS50 w0 W g f0) : IsS50 w0 w' g f0 := by subst hq; exact IsS50.drewN h m
theorem IsS50.apart {w0 W : World} {g : Nat} {f0 : List Int} {α : Type} {d : Kd α} {e : Nat} {base : Nat} {ok : Nat → Prop} {v : Value} {xs : List α} (h : IsS50 w0 W g f0) (ho : d.R e W base ok v xs) (ht : ∀ q, q ∈ e :: d.E → q ≠ 50) : d.R e W base (fun k => ok k ∧ k ≠ g) v xs := by
  obtain ⟨A0, c0, hb, hg, hr0⟩ := h
  exact Kd.R_types ho hb ht
theorem IsS50.own_ne {w0 W : World} {g : Nat} {f0 : List Int} {α : Type} {d : Kd α} {e : Nat} {base : Nat} {ok : Nat → Prop} {v : Value} {xs : List α} (h : IsS50 w0 W g f0) (ho : d.R e W base ok v xs) (ht : e ≠ 50) : some g ≠ v.ownBlock := by
  obtain ⟨A0, c0, hb, hg, hr0⟩ := h
  exact Kd.R_ne ho hb ht
theorem IsS50.apartQ {w0 W : World} {g : Nat} {f0 : List Int} {α : Type} {d : Kd α} {e : Nat} {base : Nat} {ok : Nat → Prop} {v : Value} {xs : List α} (h : IsS50 w0 W g f0) (ho : d.Q e W base ok v xs) (ht : ∀ q, q ∈ e :: d.E → q ≠ 50) : d.Q e W base (fun k => ok k ∧ k ≠ g) v xs := by
  obtain ⟨A0, c0, hb, hg, hr0⟩ := h
  exact Kd.Q_types ho hb ht
theorem IsS50.own_neQ {w0 W : World} {g : Nat} {f0 : List Int} {α : Type} {d : Kd α} {e : Nat} {base : Nat} {ok : Nat → Prop} {v : Value} {xs : List α} (h : IsS50 w0 W g f0) (ho : d.Q e W base ok v xs) (ht : e ≠ 50) : some g ≠ v.ownBlock := by
  obtain ⟨A0, c0, hb, hg, hr0⟩ := h
  exact Kd.Q_ne ho hb ht
theorem IsS50.apartS {w0 W : World} {g : Nat} {f0 : List Int} {α : Type} {d : Kd α} {e : Nat} {base : Nat} {ok : Nat → Prop} {v : Value} {xs : List α} (h : IsS50 w0 W g f0) (ho : d.S e W base ok v xs) (ht : ∀ q, q ∈ e :: d.E → q ≠ 50) : d.S e W base (fun k => ok k ∧ k ≠ g) v xs := by
  obtain ⟨A0, c0, hb, hg, hr0⟩ := h
  exact Kd.S_types ho hb ht
theorem IsS50.own_neS {w0 W : World} {g : Nat} {f0 : List Int} {α : Type} {d : Kd α} {e : Nat} {base : Nat} {ok : Nat → Prop} {v : Value} {xs : List α} (h : IsS50 w0 W g f0) (ho : d.S e W base ok v xs) (ht : e ≠ 50) : some g ≠ v.ownBlock := by
  obtain ⟨A0, c0, hb, hg, hr0⟩ := h
  exact Kd.S_ne ho hb ht
theorem IsS50.lt {w0 W : World} {g : Nat} {f0 : List Int} (h : IsS50 w0 W g f0) : g < W.heap.size := by
  obtain ⟨A0, c0, hb, hg, hr0⟩ := h
  exact blk_lt hb
theorem IsS50.ge {w0 W : World} {g : Nat} {f0 : List Int} (h : IsS50 w0 W g f0) : w0.heap.size ≤ g := by
  obtain ⟨A0, c0, hb, hg, hr0⟩ := h
  exact hg
theorem IsS50.ne_blk {w0 W : World} {g : Nat} {f0 : List Int} {a : Nat} {cs : Array Value} {t : TypeId} {fr : Nat × Nat} (h : IsS50 w0 W g f0) (hb2 : W.heap[a]? = some (.cells cs t fr)) (ht : t ≠ 50) : g ≠ a := by
  obtain ⟨A0, c0, hb, hg, hr0⟩ := h
  rintro rfl
  rw [hb] at hb2
  injection hb2 with hb2
  injection hb2 with _ ht2
  exact ht ht2.symm
theorem IsS50.far {w0 W : World} {g : Nat} {f0 : List Int} {p : Addr} (h : IsS50 w0 W g f0) (hne : g ≠ p.block) (u : Value) : IsS50 w0 (W.setCell p u) g f0 := by
  obtain ⟨A0, c0, hb, hg, hr0⟩ := h
  exact ⟨A0, c0, blk_far hb hne u, hg, hr0⟩
theorem cellS50_0 {W : World} {g : Nat} {A0 : Option Addr} {c0 : Nat} {f0 : List Int} (h : W.heap[g]? = some (.cells #[.slice A0 f0.length c0] 50 (0, 0))) : W.cell? ⟨g, 0, none⟩ = some (.slice A0 f0.length c0) := (blk_cell h 0).trans rfl
theorem IsS50.new (w0 W : World) (A0 : Option Addr) (c0 : Nat) (f0 : List Int) (hB : Below w0.heap.size w0 W) (hr0 : Kd.C (Kd.int .u8) w0 A0 f0.length f0) : IsS50 w0 (W.alloc (.cells #[.slice A0 f0.length c0] 50)) W.heap.size f0 := ⟨A0, c0, by simpa using heap_alloc_new W _, hB.size, hr0⟩

/-! ### postbagref05_Memory_fault: function 28 -/
def postbagref05_Memory_fault.f (s0_0 : List Int) (a1 : Int) (a2 : Int) : Option (Int) := if a1 > (IntKind.u64.wrap ((s0_0.length : Int))) then (some 50) else (if a2 > (wrap64 ((s0_0.length : Int) - (wrap64 (a1)))) then (some 50) else (some 0))
set_option maxHeartbeats 8000000 in
set_option maxRecDepth 100000 in
theorem postbagref05_Memory_fault.calls (g : Nat) (s0_0 : List Int) (a1 : Int) (a2 : Int) (r : Int) (w0 w : World) (hI : IsS50 w0 w g s0_0) (hB : Below w0.heap.size w0 w) (h : postbagref05_Memory_fault.f s0_0 a1 a2 = some r) :
    Calls Try.prog 28 #[.pointer (some ⟨g, 0, none⟩), .int .u64 a1, .int .i64 a2] w fun e w' => e = .returned (.int .i64 r) ∧ IsS50 w0 w' g s0_0 ∧ Below w0.heap.size w0 w' ∧ KeepBut w w' g none := by
  have HI0 := Aside0.mk hI
  have HK := Aside0.mk (KeepBut.refl w g none)
  have HL := Aside0.mk hB.size
  clear hI
  have HW0 := Aside0.mk hB.size
  have HB := Aside0.mk hB
  clear hB
  have H : (if a1 > (IntKind.u64.wrap ((s0_0.length : Int))) then (some 50) else (if a2 > (wrap64 ((s0_0.length : Int) - (wrap64 (a1)))) then (some 50) else (some 0))) = some r := h
  clear h
  by_cases c4 : a1 > (IntKind.u64.wrap ((s0_0.length : Int)))
  · rw [if_pos c4] at H
    have c4b0 : decide ((IntKind.u64.wrap ((s0_0.length : Int))) < a1) = true := decide_eq_true c4
    clear c4
    obtain rfl := Option.some.inj H
    obtain ⟨ASz5_0, cSz5_0, HGz5, hgz5, HSz5_0⟩ := HI0.out
    have hcz5_0 := cellS50_0 HGz5
    clear HGz5 hgz5
    go_enter Try.func28, Try.ntmps28
    go_wp2
    go_ret
    exact ⟨by first | rfl | (simp [errW_none, errW_some] <;> rfl) | (simp [*, errW_none, errW_some] <;> rfl), by repeat (first | (with_reducible first | exact HI0.out | apply IsS50.alloc | apply IsS50.drewN | apply IsS50.drew) | exact HI0.out), by repeat (first | (with_reducible first | exact HB.out | apply below_alloc | apply pw_below_drewN | apply below_drew1 | refine below_set ?_ (IsS50.ge HI0.out)) | exact HB.out), by repeat (first | (with_reducible first | exact HK.out | apply KeepBut.set_ | apply keep_drewN | apply keep_drew | apply keep_alloc) | exact HK.out)⟩
  · rw [if_neg c4] at H
    have c4b0 : decide ((IntKind.u64.wrap ((s0_0.length : Int))) < a1) = false := decide_eq_false c4
    clear c4
    by_cases c6 : a2 > (wrap64 ((s0_0.length : Int) - (wrap64 (a1))))
    · rw [if_pos c6] at H
      have c6b0 : decide ((wrap64 ((s0_0.length : Int) - (wrap64 (a1)))) < a2) = true := decide_eq_true c6
      clear c6
      obtain rfl := Option.some.inj H
      obtain ⟨ASz7_0, cSz7_0, HGz7, hgz7, HSz7_0⟩ := HI0.out
      have hcz7_0 := cellS50_0 HGz7
      clear HGz7 hgz7
      go_enter Try.func28, Try.ntmps28
      go_wp2
      go_ret
      exact ⟨by first | rfl | (simp [errW_none, errW_some] <;> rfl) | (simp [*, errW_none, errW_some] <;> rfl), by repeat (first | (with_reducible first | exact HI0.out | apply IsS50.alloc | apply IsS50.drewN | apply IsS50.drew) | exact HI0.out), by repeat (first | (with_reducible first | exact HB.out | apply below_alloc | apply pw_below_drewN | apply below_drew1 | refine below_set ?_ (IsS50.ge HI0.out)) | exact HB.out), by repeat (first | (with_reducible first | exact HK.out | apply KeepBut.set_ | apply keep_drewN | apply keep_drew | apply keep_alloc) | exact HK.out)⟩
    · rw [if_neg c6] at H
      have c6b0 : decide ((wrap64 ((s0_0.length : Int) - (wrap64 (a1)))) < a2) = false := decide_eq_false c6
      clear c6
      obtain rfl := Option.some.inj H
      obtain ⟨ASz8_0, cSz8_0, HGz8, hgz8, HSz8_0⟩ := HI0.out
      have hcz8_0 := cellS50_0 HGz8
      clear HGz8 hgz8
      go_enter Try.func28, Try.ntmps28
      go_wp2
      go_ret
      exact ⟨by first | rfl | (simp [errW_none, errW_some] <;> rfl) | (simp [*, errW_none, errW_some] <;> rfl), by repeat (first | (with_reducible first | exact HI0.out | apply IsS50.alloc | apply IsS50.drewN | apply IsS50.drew) | exact HI0.out), by repeat (first | (with_reducible first | exact HB.out | apply below_alloc | apply pw_below_drewN | apply below_drew1 | refine below_set ?_ (IsS50.ge HI0.out)) | exact HB.out), by repeat (first | (with_reducible first | exact HK.out | apply KeepBut.set_ | apply keep_drewN | apply keep_drew | apply keep_alloc) | exact HK.out)⟩

-- NOT PRINTED: function 27 (postbagref05_Memory_Fault)

-- NOT PRINTED: function 23 (postbagref05_Memory_Store)

-- NOT PRINTED: function 15 (postbagref20_Build)

-- NOT PRINTED: function 16 (memory_Memory_Bytes)

-- NOT PRINTED: function 17 (memory_Memory_Len)

-- NOT PRINTED: function 6 (postbaglaw20_ImageBuilds)

end Go.Proofs.Ytaimncgdpnjhiaa.PAll
