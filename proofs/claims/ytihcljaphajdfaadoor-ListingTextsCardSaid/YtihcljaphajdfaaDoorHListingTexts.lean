/- DERIVED. DERIVED. ListingTexts: the walk of the law. -/
import Derived.Test.YtihcljaphajdfaaDoorProg
import Derived.Test.YtihcljaphajdfaaDoorMBits
import Derived.Test.YtihcljaphajdfaaDoorMWalk
import Derived.Test.YtihcljaphajdfaaDoorMTab
import Derived.Test.YtihcljaphajdfaaDoorMInst
import Derived.Test.YtihcljaphajdfaaDoorMDec
import Derived.Test.YtihcljaphajdfaaDoorMDec2
import Derived.Test.YtihcljaphajdfaaDoorMQTail
import Derived.Test.YtihcljaphajdfaaDoorMArg
import Derived.Test.YtihcljaphajdfaaDoorMRow
import Derived.Test.YtihcljaphajdfaaDoorMOpen
import Derived.Test.YtihcljaphajdfaaDoorMPart
import Derived.Test.YtihcljaphajdfaaDoorMStore
import Derived.Test.YtihcljaphajdfaaDoorMReg
import Derived.Test.YtihcljaphajdfaaDoorHK
import Derived.Test.YtihcljaphajdfaaDoorPAllx3
import Derived.Test.YtihcljaphajdfaaDoorPAllx4
import Derived.Test.YtihcljaphajdfaaDoorPAllx6
import Derived.Test.YtihcljaphajdfaaDoorPAllx9
import Derived.Test.YtihcljaphajdfaaDoorPAllx11
import Derived.Below
import Derived.Deep.Draws
import Derived.Deep.AppendLies
import Derived.Maps.AppendAt
import Derived.OwnWalk
import Derived.Laws.BytesArg
import Derived.Laws.MakeOwn
import Derived.Laws.OwnMore
import Derived.Deep.OwnRows
import Derived.Tactics
import Derived.Lib.ConvBytes
import Derived.Laws.Slices
import Derived.WalkKit
import Derived.KernelRfl
import Derived.RowKit3
import Derived.Deep.LoopGhost
import Derived.Deep.QuietTactic
import Derived.BigQuiet
import Derived.WideLaws
import Derived.Deep.DeepCutAuto
import Derived.Deep.CutBlock
import Derived.Deep.RegionHeld3
import Derived.Laws.Rows
import Derived.Lib.AppendStr
import Derived.ArgAppend
import Derived.Laws.IdiomCopy
import Derived.OrdersHeld
import Derived.Laws.BitsLemmas
import Derived.Laws.Bits64
import Derived.RowKit
import Derived.Outline
import Derived.Handy
import Derived.Lib.Hide
import Derived.Deep.Light
import Derived.Laws.CopyOwn
import Derived.Lib.ItoaLen
import Derived.Deep.CutRange
import Derived.StillTail
import Derived.Shelf.RegionOpen
import Derived.Lib.QuietBelow
import Derived.Lib.AppendIntMem
import Derived.Laws.AppendOwnNone
import Derived.Shelf.Strings.Prefix
import Derived.Shelf.Strings.Split
import Derived.Shelf.Strings.Cut
import Derived.Shelf.Strings.Builder1
import Derived.Shelf.Strconv.AtoiAll
import Derived.Shelf.Strconv.Itoa3
import Derived.Ground.NamesProg
import Derived.Lib.AtoiTie
import Derived.Lib.AtoiErrMem
import Derived.Shelf.Vars
namespace Go.Proofs.YtihcljaphajdfaaDoor.Hand
open Go Go.RowKit Go.Proofs.YtihcljaphajdfaaDoor.M Go.Proofs.YtihcljaphajdfaaDoor.PAll Go.Proofs.YtihcljaphajdfaaDoorW.PrintWords
set_option linter.unusedVariables false
set_option linter.unusedSimpArgs false
attribute [local go_sem] Oper.semAt_some
set_option maxRecDepth 100000 in
set_option maxHeartbeats 3000000 in
theorem texts_any (i : Ins) (hi : i.Ok) (w : World) (hL : LaidOk w) : Calls Tryd.prog 3 #[.agg i.cells] w fun e w' => e = .returned (.bool true) ∧ Below w.heap.size w w' := by
  have hL' := Lib.hid hL
  clear hL
  unfold Ins.cells
  go_enter Tryd.func3, Tryd.ntmps3
  go_upto_region 1 with fail
  generalize hX : World.alloc w _ = X
  obtain ⟨B, dX, sX⟩ := arg_box (cs := i.cells) hX
  clear hX
  have hLX := Lib.hid (hL'.out.below dX)
  have HB : Hid (∀ V, (∃ pp : Regrown, V = Sort.grow (redrawn X pp.d) pp.os) → Blk V w.heap.size i.cells 23) := Lib.hid fun V hV => by
    obtain ⟨pp, rfl⟩ := hV
    exact B.below (below_regrown X pp.d pp.os)
  have HT := Lib.hid fun (d : Nat) (os : Array Obj) => Calls.regrown_of (Text_any i hi _ (hLX.out.below (below_regrown X d os)))
  have HR := Lib.hid fun (d : Nat) (os : Array Obj) => Calls.regrown_of (rText_any i hi (Sort.grow (redrawn X d) os))
  have HV := Lib.hid fun (d : Nat) (os : Array Obj) => Calls.regrown_of (lives_any _ (hLX.out.below (below_regrown X d os)))
  unfold Ins.cells at HT HR
  refine wp_region_quiet_below (by kernel_rfl) (by kernel_rfl) ?_
  repeat (first
    | (refine wpQuiet_load rfl 23 _ rfl ⟨w.heap.size, 0, none⟩ rfl i.cells _ (fun V hV => (HB.out V hV).whole) Tryd.underlying23 rfl ins_info ?_; (unfold Ins.cells; try simp only [List.getElem_toArray, List.getElem_cons_succ, List.getElem_cons_zero, Act.put, List.setIfInBounds_toArray, List.set_cons_succ, List.set_cons_zero]))
    | go_big_quiet_step (first | exact HT.out _ _ | exact HR.out _ _ | exact HV.out _ _))
  refine wpQuiet_nil ?_
  intro _ hw'
  obtain ⟨⟨dq, osq⟩, hw''⟩ := hw'
  subst hw''
  have D := Lib.hid (dX.trans ((below_regrown X dq osq).mono dX.size))
  clear HB HT HR HV
  generalize Sort.grow (redrawn X dq) osq = Y at *
  go_wp2_with fail
  go_ret
  exact ⟨rfl, D.out⟩
theorem ListingTexts.all (a0 a1 a2 a3 a4 : Int) (b0 b1 : Bool) (w : World) (hL : LaidOk w) (w0 : (Lit.int .i64 a0).wf = true) (w1 : (Lit.int .i64 a1).wf = true) (w2 : (Lit.int .i64 a2).wf = true) (w3 : (Lit.int .i64 a3).wf = true) (w4 : (Lit.int .i64 a4).wf = true) :
    Calls Tryd.prog 3 #[.agg #[.int .i64 a0, .int .i64 a1, .int .i64 a2, .int .i64 a3, .int .i64 a4, .bool b0, .bool b1]] w fun e w' => e = .returned (.bool true) ∧ Below w.heap.size w w' :=
  texts_any ⟨a0, a1, a2, a3, a4, b0, b1⟩ ⟨I64.of_wf w0, I64.of_wf w1, I64.of_wf w2, I64.of_wf w3, I64.of_wf w4⟩ w hL
end Go.Proofs.YtihcljaphajdfaaDoor.Hand
