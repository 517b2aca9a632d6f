/- DERIVED. DERIVED. The chapter's examples hold. -/
import Derived.Test.YtdfapbfpmjbnhaaProg
import Derived.Test.YtdfapbfpmjbnhaaMBits
import Derived.Test.YtdfapbfpmjbnhaaMWalk
import Derived.Test.YtdfapbfpmjbnhaaMArg
import Derived.Test.YtdfapbfpmjbnhaaMRow
import Derived.Test.YtdfapbfpmjbnhaaMOpen
import Derived.Test.YtdfapbfpmjbnhaaMPart
import Derived.Test.YtdfapbfpmjbnhaaMGoMap
import Derived.Test.YtdfapbfpmjbnhaaHI
import Derived.Below
import Derived.Deep.Draws
import Derived.Deep.AppendLies
import Derived.Maps.AppendAt
import Derived.OwnWalk
import Derived.Laws.BytesArg
import Derived.Laws.MakeOwn
import Derived.Laws.OwnMore
import Derived.Deep.OwnRows
import Derived.Tactics
import Derived.Lib.ConvBytes
import Derived.Laws.Slices
import Derived.WalkKit
import Derived.KernelRfl
import Derived.RowKit3
import Derived.Deep.LoopGhost
import Derived.Deep.QuietTactic
import Derived.BigQuiet
import Derived.WideLaws
import Derived.Deep.DeepCutAuto
import Derived.Deep.CutBlock
import Derived.Deep.RegionHeld3
import Derived.Laws.Rows
import Derived.Lib.AppendStr
import Derived.ArgAppend
import Derived.Laws.IdiomCopy
import Derived.OrdersHeld
import Derived.Laws.BitsLemmas
import Derived.Laws.Bits64
import Derived.RowKit
import Derived.Outline
import Derived.Handy
import Derived.Lib.Hide
import Derived.Deep.Light
import Derived.Laws.CopyOwn
import Derived.Laws.AppendOwnNone
import Derived.RangeFuncNested
import Derived.RangeFuncBound
import Derived.RangeFuncCalls
import Derived.RangeFuncLeaves
import Derived.Shelf.Abstract
import Derived.Shelf.RegionOpen
import Derived.OwnWalkIn
import Derived.TacticsInMore
import Derived.LoopNIn
import Derived.LoopIn
import Derived.Maps.OwnIn
import Derived.Deep.WholeRow
namespace Go.Proofs.Ytdfapbfpmjbnhaa.Hand
open Go Go.RowKit Go.Proofs.Ytdfapbfpmjbnhaa.M
set_option linter.unusedVariables false
set_option linter.unusedSimpArgs false
attribute [local go_sem] Oper.semAt_some
def noSl : Sl := ⟨none, 0, 0, []⟩
def liveA : OpS := ⟨0, true, false, false, 0, 8, false, false, 0, 0, 0, 0, noSl, -1, noSl, noSl, noSl⟩
def liveB : OpS := ⟨1, false, true, false, 4, 4, false, false, 0, 0, 0, 0, noSl, -1, noSl, noSl, noSl⟩
def liveC : OpS := ⟨2, false, true, false, 8, 8, false, false, 0, 0, 0, 0, noSl, -1, noSl, noSl, noSl⟩
def liveF : OpS := ⟨3, false, false, true, 0, 0, false, false, 1, 1, 0, 0, noSl, -1, noSl, noSl, noSl⟩
theorem live_1 : ruleOf [liveA, liveB] 0 1 = 1 := by kernel_rfl
theorem live_2 : ruleOf [liveB, liveC] 0 1 = 0 := by kernel_rfl
theorem live_3 : ruleOf [liveB, liveF, liveC] 0 2 = 4 := by kernel_rfl
theorem noSl_at (w : World) : noSl.At w := ⟨fun h => absurd rfl h, rfl, by simp [noSl], fun x hx => by cases hx⟩
def cat2 (a b : OpS) : Array Value := (a.cells.toList ++ b.cells.toList).toArray
def cat3 (a b c : OpS) : Array Value := (a.cells.toList ++ (b.cells.toList ++ c.cells.toList)).toArray
theorem cat2_at {X : World} {g : Nat} {a b : OpS} (B : Blk X g (cat2 a b) 29) (hA : a.At X) (hB : b.At X) : (⟨some ⟨g, 0, none⟩, 2, 2, [a, b]⟩ : OSl).At X := by
  refine ⟨fun _ => ⟨_, rfl, B.lt, fun k o hk => ?_⟩, rfl, by show 2 ≤ _; omega, fun o ho => ?_⟩
  · match k, hk with
    | 0, hk =>
        injection hk with e
        subst e
        refine B.cellsAt (o := 0) fun j v hv => ?_
        have hj := (Array.getElem?_eq_some_iff.1 hv).1
        rw [Nat.zero_add, cat2, List.getElem?_toArray, List.getElem?_append_left (by simpa using hj), Array.getElem?_toList, hv]
    | 1, hk =>
        injection hk with e
        subst e
        refine B.cellsAt (o := 17) fun j v hv => ?_
        rw [cat2, List.getElem?_toArray, List.getElem?_append_right (by rw [OpS.len]; omega), OpS.len, show 17 + j - 17 = j by omega, Array.getElem?_toList, hv]
    | k + 2, hk => simp at hk
  · rcases List.mem_cons.1 ho with rfl | ho
    · exact hA
    · rw [List.mem_singleton.1 ho]; exact hB
theorem cat3_at {X : World} {g : Nat} {a b c : OpS} (B : Blk X g (cat3 a b c) 29) (hA : a.At X) (hB : b.At X) (hC : c.At X) : (⟨some ⟨g, 0, none⟩, 3, 3, [a, b, c]⟩ : OSl).At X := by
  refine ⟨fun _ => ⟨_, rfl, B.lt, fun k o hk => ?_⟩, rfl, by show 3 ≤ _; omega, fun o ho => ?_⟩
  · match k, hk with
    | 0, hk =>
        injection hk with e
        subst e
        refine B.cellsAt (o := 0) fun j v hv => ?_
        have hj := (Array.getElem?_eq_some_iff.1 hv).1
        rw [Nat.zero_add, cat3, List.getElem?_toArray, List.getElem?_append_left (by simpa using hj), Array.getElem?_toList, hv]
    | 1, hk =>
        injection hk with e
        subst e
        refine B.cellsAt (o := 17) fun j v hv => ?_
        have hj := (Array.getElem?_eq_some_iff.1 hv).1
        rw [cat3, List.getElem?_toArray, List.getElem?_append_right (by rw [OpS.len]; omega), OpS.len, show 17 + j - 17 = j by omega, List.getElem?_append_left (by simpa using hj), Array.getElem?_toList, hv]
    | 2, hk =>
        injection hk with e
        subst e
        refine B.cellsAt (o := 34) fun j v hv => ?_
        rw [cat3, List.getElem?_toArray, List.getElem?_append_right (by rw [OpS.len]; omega), OpS.len, List.getElem?_append_right (by rw [OpS.len]; omega), OpS.len, show 34 + j - 17 - 17 = j by omega, Array.getElem?_toList, hv]
    | k + 3, hk => simp at hk
  · rcases List.mem_cons.1 ho with rfl | ho
    · exact hA
    · rcases List.mem_cons.1 ho with rfl | ho
      · exact hB
      · rw [List.mem_singleton.1 ho]; exact hC
theorem u64_lit (n : Nat) (h : n < 18446744073709551616) : U64 (n : Int) := U64.mk h
theorem liveA_at (w : World) : liveA.At w := ⟨noSl_at w, noSl_at w, noSl_at w, noSl_at w, U64.mk (n := 0) (by omega), I64.of_wf (by kernel_rfl)⟩
theorem liveB_at (w : World) : liveB.At w := ⟨noSl_at w, noSl_at w, noSl_at w, noSl_at w, U64.mk (n := 4) (by omega), I64.of_wf (by kernel_rfl)⟩
theorem liveC_at (w : World) : liveC.At w := ⟨noSl_at w, noSl_at w, noSl_at w, noSl_at w, U64.mk (n := 8) (by omega), I64.of_wf (by kernel_rfl)⟩
theorem liveF_at (w : World) : liveF.At w := ⟨noSl_at w, noSl_at w, noSl_at w, noSl_at w, U64.mk (n := 0) (by omega), I64.of_wf (by kernel_rfl)⟩
set_option maxRecDepth 100000 in
set_option maxHeartbeats 4000000 in
theorem lives_any (w : World) : Calls Try.prog 7 #[] w fun e w' => e = .returned (.bool true) ∧ Below w.heap.size w w' := by
  go_enter Try.func7, Try.ntmps7
  go_wp2_with (first
    | (refine wpList_store_row rfl 29 _ _ rfl w.heap.size liveA.cells rfl rfl 29 _ (Blk.new _ _ _) op_info (OpS.len' _).symm (OpS.one _) ?_; (generalize hZ : World.setRow _ _ _ = Z1; rw [World.setRow_alloc_new] at hZ; obtain ⟨b1, d1, s1⟩ := arg_box hZ; clear hZ))
    | (refine wpList_store_row rfl 29 _ _ rfl Z1.heap.size liveB.cells rfl rfl 29 _ (Blk.new _ _ _) op_info (OpS.len' _).symm (OpS.one _) ?_; (generalize hZ : World.setRow _ _ _ = Z2; rw [World.setRow_alloc_new] at hZ; obtain ⟨b2, d2, s2⟩ := arg_box hZ; clear hZ))
    | (refine wpList_store_row rfl 29 _ _ rfl Z2.heap.size liveC.cells rfl rfl 29 _ (Blk.new _ _ _) op_info (OpS.len' _).symm (OpS.one _) ?_; (generalize hZ : World.setRow _ _ _ = Z3; rw [World.setRow_alloc_new] at hZ; obtain ⟨b3, d3, s3⟩ := arg_box hZ; clear hZ))
    | (refine wpList_store_row rfl 29 _ _ rfl Z3.heap.size liveF.cells rfl rfl 29 _ (Blk.new _ _ _) op_info (OpS.len' _).symm (OpS.one _) ?_; (generalize hZ : World.setRow _ _ _ = Z4; rw [World.setRow_alloc_new] at hZ; obtain ⟨b4, d4, s4⟩ := arg_box hZ; clear hZ); (have C1 := Lib.hid (((b1.below d2).below d3).below d4); have C2 := Lib.hid ((b2.below d3).below d4); have C3 := Lib.hid (b3.below d4); have C4 := Lib.hid b4; have HD := Lib.hid (d1.trans ((d2.trans ((d3.trans (d4.mono d3.size)).mono d2.size)).mono d1.size)); clear b1 b2 b3 b4 d1 d2 d3 d4 s1 s2 s3 s4))
    | (refine wpList_load_at rfl 29 _ rfl ⟨w.heap.size, 0, none⟩ rfl #[.int .i64 0, .bool true, .bool false, .bool false, .int .u64 0, .int .i64 8, .bool false, .bool false, .int .i64 0, .int .i64 0, .int .u64 0, .int .u64 0, .slice none 0 0, .int .i64 (-1), .slice none 0 0, .slice none 0 0, .slice none 0 0] _ C1.out.whole Try.underlying29 rfl op_info ?_)
    | (refine wpList_load_in rfl 29 _ rfl ⟨w.heap.size, 0, none⟩ rfl #[.int .i64 0, .bool true, .bool false, .bool false, .int .u64 0, .int .i64 8, .bool false, .bool false, .int .i64 0, .int .i64 0, .int .u64 0, .int .u64 0, .slice none 0 0, .int .i64 (-1), .slice none 0 0, .slice none 0 0, .slice none 0 0] _ C1.out.whole Try.underlying29 rfl op_info ?_)
    | (refine wpList_load_at rfl 29 _ rfl ⟨Z1.heap.size, 0, none⟩ rfl #[.int .i64 1, .bool false, .bool true, .bool false, .int .u64 4, .int .i64 4, .bool false, .bool false, .int .i64 0, .int .i64 0, .int .u64 0, .int .u64 0, .slice none 0 0, .int .i64 (-1), .slice none 0 0, .slice none 0 0, .slice none 0 0] _ C2.out.whole Try.underlying29 rfl op_info ?_)
    | (refine wpList_load_in rfl 29 _ rfl ⟨Z1.heap.size, 0, none⟩ rfl #[.int .i64 1, .bool false, .bool true, .bool false, .int .u64 4, .int .i64 4, .bool false, .bool false, .int .i64 0, .int .i64 0, .int .u64 0, .int .u64 0, .slice none 0 0, .int .i64 (-1), .slice none 0 0, .slice none 0 0, .slice none 0 0] _ C2.out.whole Try.underlying29 rfl op_info ?_)
    | (refine wpList_load_at rfl 29 _ rfl ⟨Z2.heap.size, 0, none⟩ rfl #[.int .i64 2, .bool false, .bool true, .bool false, .int .u64 8, .int .i64 8, .bool false, .bool false, .int .i64 0, .int .i64 0, .int .u64 0, .int .u64 0, .slice none 0 0, .int .i64 (-1), .slice none 0 0, .slice none 0 0, .slice none 0 0] _ C3.out.whole Try.underlying29 rfl op_info ?_)
    | (refine wpList_load_in rfl 29 _ rfl ⟨Z2.heap.size, 0, none⟩ rfl #[.int .i64 2, .bool false, .bool true, .bool false, .int .u64 8, .int .i64 8, .bool false, .bool false, .int .i64 0, .int .i64 0, .int .u64 0, .int .u64 0, .slice none 0 0, .int .i64 (-1), .slice none 0 0, .slice none 0 0, .slice none 0 0] _ C3.out.whole Try.underlying29 rfl op_info ?_)
    | (refine wpList_load_at rfl 29 _ rfl ⟨Z3.heap.size, 0, none⟩ rfl #[.int .i64 3, .bool false, .bool false, .bool true, .int .u64 0, .int .i64 0, .bool false, .bool false, .int .i64 1, .int .i64 1, .int .u64 0, .int .u64 0, .slice none 0 0, .int .i64 (-1), .slice none 0 0, .slice none 0 0, .slice none 0 0] _ C4.out.whole Try.underlying29 rfl op_info ?_)
    | (refine wpList_load_in rfl 29 _ rfl ⟨Z3.heap.size, 0, none⟩ rfl #[.int .i64 3, .bool false, .bool false, .bool true, .int .u64 0, .int .i64 0, .bool false, .bool false, .int .i64 1, .int .i64 1, .int .u64 0, .int .u64 0, .slice none 0 0, .int .i64 (-1), .slice none 0 0, .slice none 0 0, .slice none 0 0] _ C4.out.whole Try.underlying29 rfl op_info ?_)
    | (go_at_call 10; (generalize hZ : World.alloc _ _ = Y; have hb := arg_box hZ; clear hZ; have bx : Blk Y _ (cat2 liveA liveB) 29 := hb.1; refine (Rule_any ⟨some ⟨_, 0, none⟩, 2, 2, [liveA, liveB]⟩ 0 1 Y (cat2_at bx (liveA_at _) (liveB_at _)) (Nat.le_refl _)).mono ?_; rintro e W ⟨he, dd⟩; replace he := he.trans (congrArg (fun x => Ending.returned (Value.int .i64 x)) live_1); subst he; replace C1 := Lib.hid ((C1.out.below hb.2.1).below dd); replace C2 := Lib.hid ((C2.out.below hb.2.1).below dd); replace C3 := Lib.hid ((C3.out.below hb.2.1).below dd); replace C4 := Lib.hid ((C4.out.below hb.2.1).below dd); replace HD := Lib.hid ((HD.out.trans (hb.2.1.mono HD.out.size)).trans (dd.mono (Nat.le_trans HD.out.size hb.2.1.size))); clear dd hb bx))
    | (go_at_call 10; (generalize hZ : World.alloc _ _ = Y; have hb := arg_box hZ; clear hZ; have bx : Blk Y _ (cat2 liveB liveC) 29 := hb.1; refine (Rule_any ⟨some ⟨_, 0, none⟩, 2, 2, [liveB, liveC]⟩ 0 1 Y (cat2_at bx (liveB_at _) (liveC_at _)) (Nat.le_refl _)).mono ?_; rintro e W ⟨he, dd⟩; replace he := he.trans (congrArg (fun x => Ending.returned (Value.int .i64 x)) live_2); subst he; replace C1 := Lib.hid ((C1.out.below hb.2.1).below dd); replace C2 := Lib.hid ((C2.out.below hb.2.1).below dd); replace C3 := Lib.hid ((C3.out.below hb.2.1).below dd); replace C4 := Lib.hid ((C4.out.below hb.2.1).below dd); replace HD := Lib.hid ((HD.out.trans (hb.2.1.mono HD.out.size)).trans (dd.mono (Nat.le_trans HD.out.size hb.2.1.size))); clear dd hb bx))
    | (go_at_call 10; (generalize hZ : World.alloc _ _ = Y; have hb := arg_box hZ; clear hZ; have bx : Blk Y _ (cat3 liveB liveF liveC) 29 := hb.1; refine (Rule_any ⟨some ⟨_, 0, none⟩, 3, 3, [liveB, liveF, liveC]⟩ 0 2 Y (cat3_at bx (liveB_at _) (liveF_at _) (liveC_at _)) (Nat.le_refl _)).mono ?_; rintro e W ⟨he, dd⟩; replace he := he.trans (congrArg (fun x => Ending.returned (Value.int .i64 x)) live_3); subst he; replace C1 := Lib.hid ((C1.out.below hb.2.1).below dd); replace C2 := Lib.hid ((C2.out.below hb.2.1).below dd); replace C3 := Lib.hid ((C3.out.below hb.2.1).below dd); replace C4 := Lib.hid ((C4.out.below hb.2.1).below dd); replace HD := Lib.hid ((HD.out.trans (hb.2.1.mono HD.out.size)).trans (dd.mono (Nat.le_trans HD.out.size hb.2.1.size))); clear dd hb bx)))
  go_ret
  exact ⟨rfl, HD.out⟩
end Go.Proofs.Ytdfapbfpmjbnhaa.Hand
