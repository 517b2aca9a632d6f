/- DERIVED. DERIVED. The predicates that the rules ask of those between. -/
import Derived.Test.YtdfapbfpmjbnhaaProg
import Derived.Test.YtdfapbfpmjbnhaaMBits
import Derived.Test.YtdfapbfpmjbnhaaMWalk
import Derived.Test.YtdfapbfpmjbnhaaMArg
import Derived.Test.YtdfapbfpmjbnhaaMRow
import Derived.Test.YtdfapbfpmjbnhaaMOpen
import Derived.Test.YtdfapbfpmjbnhaaMPart
import Derived.Test.YtdfapbfpmjbnhaaMGoMap
import Derived.Test.YtdfapbfpmjbnhaaHC
import Derived.Below
import Derived.Deep.Draws
import Derived.Deep.AppendLies
import Derived.Maps.AppendAt
import Derived.OwnWalk
import Derived.Laws.BytesArg
import Derived.Laws.MakeOwn
import Derived.Laws.OwnMore
import Derived.Deep.OwnRows
import Derived.Tactics
import Derived.Lib.ConvBytes
import Derived.Laws.Slices
import Derived.WalkKit
import Derived.KernelRfl
import Derived.RowKit3
import Derived.Deep.LoopGhost
import Derived.Deep.QuietTactic
import Derived.BigQuiet
import Derived.WideLaws
import Derived.Deep.DeepCutAuto
import Derived.Deep.CutBlock
import Derived.Deep.RegionHeld3
import Derived.Laws.Rows
import Derived.Lib.AppendStr
import Derived.ArgAppend
import Derived.Laws.IdiomCopy
import Derived.OrdersHeld
import Derived.Laws.BitsLemmas
import Derived.Laws.Bits64
import Derived.RowKit
import Derived.Outline
import Derived.Handy
import Derived.Lib.Hide
import Derived.Deep.Light
import Derived.Laws.CopyOwn
import Derived.Laws.AppendOwnNone
import Derived.RangeFuncNested
import Derived.RangeFuncBound
import Derived.RangeFuncCalls
import Derived.RangeFuncLeaves
import Derived.Shelf.Abstract
import Derived.Shelf.RegionOpen
import Derived.OwnWalkIn
import Derived.TacticsInMore
import Derived.LoopNIn
import Derived.LoopIn
import Derived.Maps.OwnIn
import Derived.Deep.WholeRow
namespace Go.Proofs.Ytdfapbfpmjbnhaa.Hand
open Go Go.RowKit Go.Proofs.Ytdfapbfpmjbnhaa.M
set_option linter.unusedVariables false
set_option linter.unusedSimpArgs false
def twelveB (a b o : OpS) : Bool := o.store && ((inOf o.addrs.l a.id || inOf o.datas.l a.id) && byOf b o.id)
set_option maxRecDepth 100000 in
set_option maxHeartbeats 4000000 in
theorem twelve_any (a b o : OpS) (pa pb : Nat) (w : World) (A : Blk w pa a.cells 29) (B : Blk w pb b.cells 29) (hO : o.At w) (hB : b.At w) :
    Calls Try.prog 26 #[.agg o.cells, .pointer (some ⟨pa, 0, none⟩), .pointer (some ⟨pb, 0, none⟩)] w fun e w' => e = .returned (.bool (twelveB a b o)) ∧ Below w.heap.size w w' := by
  have n1 : twelveB a b o = (o.store && ((inOf o.addrs.l a.id || inOf o.datas.l a.id) && byOf b o.id)) := rfl
  obtain ⟨X, hX⟩ : ∃ X, w.alloc (.cells o.cells 29) = X := ⟨_, rfl⟩
  obtain ⟨bx, dx, sx⟩ := arg_box hX
  have S1 := Lib.hid (in_any o.addrs a.id X (hO.below dx).a)
  have S2 := Lib.hid (in_any o.datas a.id X (hO.below dx).d)
  have S3 := Lib.hid (by_any b o.id X (hB.below dx))
  have HA := Lib.hid (A.below dx)
  have HB := Lib.hid (B.below dx)
  have HX := Lib.hid dx
  have c0 := cId bx
  have c2 := cStore bx
  have c14 : X.cell? ⟨w.heap.size, 14, none⟩ = some o.addrs.v := bx.cell 14
  have c15 : X.cell? ⟨w.heap.size, 15, none⟩ = some o.datas.v := bx.cell 15
  have ca := cId HA.out
  generalize twelveB a b o = R at *
  generalize inOf o.addrs.l a.id = s1 at *
  generalize inOf o.datas.l a.id = s2 at *
  generalize byOf b o.id = s3 at *
  generalize o.store = st at *
  generalize o.addrs.v = v1 at *
  generalize o.datas.v = v2 at *
  have N1 := Lib.hid n1
  clear n1 A B hO hB bx dx sx
  cases st
  · go_enter Try.func26, Try.ntmps26
    go_wp2_with fail
    go_ret
    exact ⟨by rw [N1.out]; rfl, HX.out⟩
  · cases s1 <;> cases s2
    all_goals
      go_enter Try.func26, Try.ntmps26
      go_wp2_with (first | (go_at_call 25; refine S1.out.mono ?_; clear S1; rintro e W ⟨rfl, rfl⟩) | (go_at_call 25; refine S2.out.mono ?_; clear S2; rintro e W ⟨rfl, rfl⟩) | (refine wpList_load_in rfl 29 _ rfl ⟨pb, 0, none⟩ rfl b.cells _ HB.out.whole Try.underlying29 rfl op_info ?_) | (go_at_call 21; refine S3.out.mono ?_; clear S3; rintro e W ⟨rfl, d2⟩))
      go_ret
      first | exact ⟨by rw [N1.out]; simp, HX.out⟩ | exact ⟨by rw [N1.out]; simp, HX.out.trans (d2.mono HX.out.size)⟩
def thirteenB (a o : OpS) : Bool := !o.fence && inOf o.addrs.l a.id
set_option maxRecDepth 100000 in
set_option maxHeartbeats 4000000 in
theorem thirteen_any (a o : OpS) (pa : Nat) (w : World) (A : Blk w pa a.cells 29) (hO : o.At w) :
    Calls Try.prog 27 #[.agg o.cells, .pointer (some ⟨pa, 0, none⟩)] w fun e w' => e = .returned (.bool (thirteenB a o)) ∧ Below w.heap.size w w' := by
  have n1 : thirteenB a o = (!o.fence && inOf o.addrs.l a.id) := rfl
  obtain ⟨X, hX⟩ : ∃ X, w.alloc (.cells o.cells 29) = X := ⟨_, rfl⟩
  obtain ⟨bx, dx, sx⟩ := arg_box hX
  have S1 := Lib.hid (in_any o.addrs a.id X (hO.below dx).a)
  have HX := Lib.hid dx
  have c3 := cFence bx
  have c14 : X.cell? ⟨w.heap.size, 14, none⟩ = some o.addrs.v := bx.cell 14
  have ca := cId (A.below dx)
  generalize thirteenB a o = R at *
  generalize inOf o.addrs.l a.id = s1 at *
  generalize o.fence = fe at *
  generalize o.addrs.v = v1 at *
  have N1 := Lib.hid n1
  clear n1 A hO bx dx sx
  cases fe
  all_goals
    go_enter Try.func27, Try.ntmps27
    go_wp2_with (first | (go_at_call 25; refine S1.out.mono ?_; clear S1; rintro e W ⟨rfl, rfl⟩))
    go_ret
    exact ⟨by rw [N1.out]; rfl, HX.out⟩
def storeHas (o : OpS) (x : Int) : Bool := o.store && hasOf o x
set_option maxRecDepth 100000 in
set_option maxHeartbeats 4000000 in
theorem apart1_any (o : OpS) (x : Int) (px : Nat) (w : World) (A : w.cell? ⟨px, 0, none⟩ = some (.int .u64 x)) (hO : o.At w) :
    Calls Try.prog 31 #[.agg o.cells, .pointer (some ⟨px, 0, none⟩)] w fun e w' => e = .returned (.bool (storeHas o x)) ∧ Below w.heap.size w w' := by
  have n1 : storeHas o x = (o.store && hasOf o x) := rfl
  obtain ⟨X, hX⟩ : ∃ X, w.alloc (.cells o.cells 29) = X := ⟨_, rfl⟩
  obtain ⟨bx, dx, sx⟩ := arg_box hX
  have S1 := Lib.hid (has_any o x X hO.u hO.z)
  have HX := Lib.hid dx
  have HB := Lib.hid bx
  have c2 := cStore bx
  have ca := (dx.cell (p := ⟨px, 0, none⟩) (lt_of_cell A)).trans A
  generalize storeHas o x = R at *
  generalize hasOf o x = s1 at *
  generalize o.store = st at *
  have N1 := Lib.hid n1
  clear n1 A hO bx dx sx
  cases st
  all_goals
    go_enter Try.func31, Try.ntmps31
    go_wp2_with (first | (refine wpList_load_in rfl 29 _ rfl ⟨w.heap.size, 0, none⟩ rfl o.cells _ HB.out.whole Try.underlying29 rfl op_info ?_) | (go_at_call 28; refine S1.out.mono ?_; clear S1; rintro e W ⟨rfl, d2⟩))
    go_ret
    first | exact ⟨by rw [N1.out]; rfl, HX.out⟩ | exact ⟨by rw [N1.out]; rfl, HX.out.trans (d2.mono HX.out.size)⟩
end Go.Proofs.Ytdfapbfpmjbnhaa.Hand
