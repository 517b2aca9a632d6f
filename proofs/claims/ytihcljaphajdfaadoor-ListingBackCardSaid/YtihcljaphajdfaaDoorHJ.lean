/- DERIVED. DERIVED. What the chapter shows. -/
import Derived.Test.YtihcljaphajdfaaDoorProg
import Derived.Test.YtihcljaphajdfaaDoorMBits
import Derived.Test.YtihcljaphajdfaaDoorMWalk
import Derived.Test.YtihcljaphajdfaaDoorMTab
import Derived.Test.YtihcljaphajdfaaDoorMInst
import Derived.Test.YtihcljaphajdfaaDoorMDec
import Derived.Test.YtihcljaphajdfaaDoorMDec2
import Derived.Test.YtihcljaphajdfaaDoorMQTail
import Derived.Test.YtihcljaphajdfaaDoorMArg
import Derived.Test.YtihcljaphajdfaaDoorMRow
import Derived.Test.YtihcljaphajdfaaDoorMOpen
import Derived.Test.YtihcljaphajdfaaDoorMPart
import Derived.Test.YtihcljaphajdfaaDoorMStore
import Derived.Test.YtihcljaphajdfaaDoorMReg
import Derived.Test.YtihcljaphajdfaaDoorMQTwo
import Derived.Test.YtihcljaphajdfaaDoorMQTail
import Derived.Test.YtihcljaphajdfaaDoorMStore
import Derived.Test.YtihcljaphajdfaaDoorMReg
import Derived.Test.YtihcljaphajdfaaDoorHI
import Derived.Test.YtihcljaphajdfaaDoorPAllx3
import Derived.Test.YtihcljaphajdfaaDoorPAllx4
import Derived.Test.YtihcljaphajdfaaDoorPAllx6
import Derived.Test.YtihcljaphajdfaaDoorPAllx9
import Derived.Test.YtihcljaphajdfaaDoorPAllx11
import Derived.Below
import Derived.Deep.Draws
import Derived.Deep.AppendLies
import Derived.Maps.AppendAt
import Derived.OwnWalk
import Derived.Laws.BytesArg
import Derived.Laws.MakeOwn
import Derived.Laws.OwnMore
import Derived.Deep.OwnRows
import Derived.Tactics
import Derived.Lib.ConvBytes
import Derived.Laws.Slices
import Derived.WalkKit
import Derived.KernelRfl
import Derived.RowKit3
import Derived.Deep.LoopGhost
import Derived.Deep.QuietTactic
import Derived.BigQuiet
import Derived.WideLaws
import Derived.Deep.DeepCutAuto
import Derived.Deep.CutBlock
import Derived.Deep.RegionHeld3
import Derived.Laws.Rows
import Derived.Lib.AppendStr
import Derived.ArgAppend
import Derived.Laws.IdiomCopy
import Derived.OrdersHeld
import Derived.Laws.BitsLemmas
import Derived.Laws.Bits64
import Derived.RowKit
import Derived.Outline
import Derived.Handy
import Derived.Lib.Hide
import Derived.Deep.Light
import Derived.Laws.CopyOwn
import Derived.Lib.ItoaLen
import Derived.Deep.CutRange
import Derived.StillTail
import Derived.Shelf.RegionOpen
import Derived.Lib.QuietBelow
import Derived.Lib.AppendIntMem
import Derived.Laws.AppendOwnNone
import Derived.Shelf.Strings.Prefix
import Derived.Shelf.Strings.Split
import Derived.Shelf.Strings.Cut
import Derived.Shelf.Strings.Builder1
import Derived.Shelf.Strconv.AtoiAll
import Derived.Shelf.Strconv.Itoa3
import Derived.Ground.NamesProg
import Derived.Lib.AtoiTie
import Derived.Lib.AtoiErrMem
import Derived.Shelf.Vars
namespace Go.Proofs.YtihcljaphajdfaaDoor.Hand
open Go Go.RowKit Go.Proofs.YtihcljaphajdfaaDoor.M Go.Proofs.YtihcljaphajdfaaDoor.PAll Go.Proofs.YtihcljaphajdfaaDoorW.PrintWords
set_option linter.unusedVariables false
set_option linter.unusedSimpArgs false
attribute [local go_sem] Oper.semAt_some
def liveS : ByteArray := ⟨#[97, 109, 111, 115, 119, 97, 112, 46, 100, 46, 97, 113, 114, 108, 32, 120, 53, 32, 120, 54, 32, 120, 55]⟩
theorem live_text : textL ⟨22, 1, 2, 0, -5, false, false⟩ = [97, 100, 100, 105, 32, 120, 49, 32, 120, 50, 32, 45, 53] := by kernel_rfl
theorem live_parse : parseR liveS = some ⟨79, 5, 6, 7, 0, true, true⟩ := by kernel_rfl
theorem live_ok : (⟨22, 1, 2, 0, -5, false, false⟩ : Ins).Ok := by constructor <;> (unfold I64; dsimp only; omega)
set_option maxRecDepth 100000 in
set_option maxHeartbeats 2000000 in
theorem lives_any (w : World) (hL : LaidOk w) : Calls Tryd.prog 9 #[] w fun e w' => e = .returned (.bool true) ∧ Below w.heap.size w w' := by
  have HP := Lib.hid (show Calls Tryd.prog 10 #[.string liveS] w fun e w' => e = .returned (.tuple #[.agg (⟨79, 5, 6, 7, 0, true, true⟩ : Ins).cells, .int .i64 0]) ∧ Below w.heap.size w w' by
    have h := Parse_any liveS w (by decide) hL
    unfold ParsePost at h
    rw [live_parse] at h
    exact h)
  have HT := Lib.hid fun (W : World) (d : Below w.heap.size w W) => live_text ▸ Text_any ⟨22, 1, 2, 0, -5, false, false⟩ live_ok W (hL.below d)
  clear hL
  unfold liveS Ins.cells at HP
  unfold Ins.cells at HT
  go_enter Tryd.func9, Tryd.ntmps9
  go_upto_region 2 with (go_at_call 10; refine HP.out.mono ?_; clear HP; rintro e V ⟨rfl, dV⟩)
  generalize hX : World.alloc V _ = X
  obtain ⟨B, dX, sX⟩ := arg_box (cs := (⟨79, 5, 6, 7, 0, true, true⟩ : Ins).cells) hX
  clear hX
  have D := Lib.hid (dV.trans (dX.mono dV.size))
  have HB := Lib.hid B
  clear dV dX B
  go_wp2_with (go_at_call 7; refine (HT.out _ D.out).mono ?_; clear HT; rintro e W ⟨rfl, dW⟩; replace HB := Lib.hid (HB.out.below dW); replace D := Lib.hid (D.out.trans (dW.mono D.out.size)); clear dW; have f0 : W.cell? ⟨V.heap.size, 0, none⟩ = some (.int .i64 79) := HB.out.cell 0; have f1 : W.cell? ⟨V.heap.size, 1, none⟩ = some (.int .i64 5) := HB.out.cell 1; have f2 : W.cell? ⟨V.heap.size, 2, none⟩ = some (.int .i64 6) := HB.out.cell 2; have f3 : W.cell? ⟨V.heap.size, 3, none⟩ = some (.int .i64 7) := HB.out.cell 3; have f4 : W.cell? ⟨V.heap.size, 4, none⟩ = some (.int .i64 0) := HB.out.cell 4; have f5 : W.cell? ⟨V.heap.size, 5, none⟩ = some (.bool true) := HB.out.cell 5; have f6 : W.cell? ⟨V.heap.size, 6, none⟩ = some (.bool true) := HB.out.cell 6)
  go_ret
  exact ⟨rfl, D.out⟩
end Go.Proofs.YtihcljaphajdfaaDoor.Hand
