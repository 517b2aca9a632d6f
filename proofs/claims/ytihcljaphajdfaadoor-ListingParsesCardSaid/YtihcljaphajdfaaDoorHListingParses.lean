/- DERIVED. DERIVED. ListingParses: the walk of the law. -/
import Derived.Test.YtihcljaphajdfaaDoorProg
import Derived.Test.YtihcljaphajdfaaDoorMBits
import Derived.Test.YtihcljaphajdfaaDoorMWalk
import Derived.Test.YtihcljaphajdfaaDoorMTab
import Derived.Test.YtihcljaphajdfaaDoorMInst
import Derived.Test.YtihcljaphajdfaaDoorMDec
import Derived.Test.YtihcljaphajdfaaDoorMDec2
import Derived.Test.YtihcljaphajdfaaDoorMQTail
import Derived.Test.YtihcljaphajdfaaDoorMArg
import Derived.Test.YtihcljaphajdfaaDoorMRow
import Derived.Test.YtihcljaphajdfaaDoorMOpen
import Derived.Test.YtihcljaphajdfaaDoorMPart
import Derived.Test.YtihcljaphajdfaaDoorMStore
import Derived.Test.YtihcljaphajdfaaDoorMReg
import Derived.Test.YtihcljaphajdfaaDoorHR
import Derived.Test.YtihcljaphajdfaaDoorPAllx3
import Derived.Test.YtihcljaphajdfaaDoorPAllx4
import Derived.Test.YtihcljaphajdfaaDoorPAllx6
import Derived.Test.YtihcljaphajdfaaDoorPAllx9
import Derived.Test.YtihcljaphajdfaaDoorPAllx11
import Derived.Below
import Derived.Deep.Draws
import Derived.Deep.AppendLies
import Derived.Maps.AppendAt
import Derived.OwnWalk
import Derived.Laws.BytesArg
import Derived.Laws.MakeOwn
import Derived.Laws.OwnMore
import Derived.Deep.OwnRows
import Derived.Tactics
import Derived.Lib.ConvBytes
import Derived.Laws.Slices
import Derived.WalkKit
import Derived.KernelRfl
import Derived.RowKit3
import Derived.Deep.LoopGhost
import Derived.Deep.QuietTactic
import Derived.BigQuiet
import Derived.WideLaws
import Derived.Deep.DeepCutAuto
import Derived.Deep.CutBlock
import Derived.Deep.RegionHeld3
import Derived.Laws.Rows
import Derived.Lib.AppendStr
import Derived.ArgAppend
import Derived.Laws.IdiomCopy
import Derived.OrdersHeld
import Derived.Laws.BitsLemmas
import Derived.Laws.Bits64
import Derived.RowKit
import Derived.Outline
import Derived.Handy
import Derived.Lib.Hide
import Derived.Deep.Light
import Derived.Laws.CopyOwn
import Derived.Lib.ItoaLen
import Derived.Deep.CutRange
import Derived.StillTail
import Derived.Shelf.RegionOpen
import Derived.Lib.QuietBelow
import Derived.Lib.AppendIntMem
import Derived.Laws.AppendOwnNone
import Derived.Shelf.Strings.Prefix
import Derived.Shelf.Strings.Split
import Derived.Shelf.Strings.Cut
import Derived.Shelf.Strings.Builder1
import Derived.Shelf.Strconv.AtoiAll
import Derived.Shelf.Strconv.Itoa3
import Derived.Ground.NamesProg
import Derived.Lib.AtoiTie
import Derived.Lib.AtoiErrMem
import Derived.Shelf.Vars
namespace Go.Proofs.YtihcljaphajdfaaDoor.Hand
open Go Go.RowKit Go.Proofs.YtihcljaphajdfaaDoor.M Go.Proofs.YtihcljaphajdfaaDoor.PAll Go.Proofs.YtihcljaphajdfaaDoorW.PrintWords
set_option linter.unusedVariables false
set_option linter.unusedSimpArgs false
attribute [local go_sem] Oper.semAt_some
theorem insEnd_some (r : Option Ins) : ∃ (i : Ins) (n : Int), insEnd r = (.agg i.cells, n) := by
  cases r with
  | none => exact ⟨_, _, rfl⟩
  | some i => exact ⟨i, 0, rfl⟩
set_option maxRecDepth 100000 in
set_option maxHeartbeats 4000000 in
theorem parses_any (s : ByteArray) (w : World) (hL : LaidOk w) : Calls Tryd.prog 4 #[.string s] w fun e w' => e = .returned (.bool true) ∧ Below w.heap.size w w' := by
  have hL' := Lib.hid hL
  clear hL
  have HV := Lib.hid fun (W : World) (d : Below w.heap.size w W) => lives_any W (hL'.out.below d)
  by_cases hb : 500 < s.size
  · go_enter Tryd.func4, Tryd.ntmps4
    go_wp2_with (go_at_call 9; refine (HV.out _ (Below.refl _ _)).mono ?_; clear HV; rintro e V ⟨rfl, dV⟩)
    go_ret
    exact ⟨rfl, dV⟩
  · have HP := Lib.hid (Parse_any s w (by omega) hL'.out)
    have HR := Lib.hid fun (W : World) => rparse_eq s ▸ rParse_any s W (by omega)
    generalize parseR s = r at *
    obtain ⟨i, n, hr⟩ := insEnd_some r
    unfold ParsePost at HP HR
    rw [hr] at HP
    simp only [hr] at HR
    dsimp only at HP HR
    clear hr
    go_enter Tryd.func4, Tryd.ntmps4
    go_upto_region 3 with fail
    go_upto_region 4 with (first | (refine wpList_store_row rfl 23 _ _ rfl V.heap.size i.cells rfl rfl 23 _ (Blk.new V _ _) ins_info (by kernel_rfl) (Ins.one _) ?_; (generalize hZ : World.setRow _ _ _ = Z)) | (go_at_call 10; refine HP.out.mono ?_; clear HP; rintro e V ⟨rfl, dV⟩))
    have BZ := Lib.hid (show Blk Z V.heap.size i.cells 23 from hZ ▸ (Blk.new V _ 23).row i.cells)
    have DZ : Below V.heap.size V Z := hZ ▸ below_row ((Below.refl _ _).alloc (Nat.le_refl _) _) (Nat.le_refl _) i.cells
    have D := Lib.hid (dV.trans (DZ.mono dV.size))
    clear hZ DZ dV
    go_upto_region 5 with (first | (refine wpList_store_row rfl 23 _ _ rfl V2.heap.size i.cells rfl rfl 23 _ (Blk.new V2 _ _) ins_info (by kernel_rfl) (Ins.one _) ?_; (generalize hZ : World.setRow _ _ _ = Z2)) | (go_at_call 11; refine (HR.out _).mono ?_; clear HR; rintro e V2 ⟨rfl, dV⟩))
    have BZ2 := Lib.hid (show Blk Z2 V2.heap.size i.cells 23 from hZ ▸ (Blk.new V2 _ 23).row i.cells)
    have DZ : Below V2.heap.size V2 Z2 := hZ ▸ below_row ((Below.refl _ _).alloc (Nat.le_refl _) _) (Nat.le_refl _) i.cells
    replace D := Lib.hid (D.out.trans ((dV.trans (DZ.mono dV.size)).mono D.out.size))
    replace BZ := Lib.hid (BZ.out.below (dV.trans (DZ.mono dV.size)))
    clear hZ DZ dV
    replace HV := Lib.hid (HV.out _ D.out)
    have f0 : Z2.cell? ⟨V.heap.size, 0, none⟩ = some (.int .i64 i.op) := BZ.out.cell 0
    have f1 : Z2.cell? ⟨V.heap.size, 1, none⟩ = some (.int .i64 i.rd) := BZ.out.cell 1
    have f2 : Z2.cell? ⟨V.heap.size, 2, none⟩ = some (.int .i64 i.rs1) := BZ.out.cell 2
    have f3 : Z2.cell? ⟨V.heap.size, 3, none⟩ = some (.int .i64 i.rs2) := BZ.out.cell 3
    have f4 : Z2.cell? ⟨V.heap.size, 4, none⟩ = some (.int .i64 i.imm) := BZ.out.cell 4
    have f5 : Z2.cell? ⟨V.heap.size, 5, none⟩ = some (.bool i.aq) := BZ.out.cell 5
    have f6 : Z2.cell? ⟨V.heap.size, 6, none⟩ = some (.bool i.rl) := BZ.out.cell 6
    have g0 : Z2.cell? ⟨V2.heap.size, 0, none⟩ = some (.int .i64 i.op) := BZ2.out.cell 0
    have g1 : Z2.cell? ⟨V2.heap.size, 1, none⟩ = some (.int .i64 i.rd) := BZ2.out.cell 1
    have g2 : Z2.cell? ⟨V2.heap.size, 2, none⟩ = some (.int .i64 i.rs1) := BZ2.out.cell 2
    have g3 : Z2.cell? ⟨V2.heap.size, 3, none⟩ = some (.int .i64 i.rs2) := BZ2.out.cell 3
    have g4 : Z2.cell? ⟨V2.heap.size, 4, none⟩ = some (.int .i64 i.imm) := BZ2.out.cell 4
    have g5 : Z2.cell? ⟨V2.heap.size, 5, none⟩ = some (.bool i.aq) := BZ2.out.cell 5
    have g6 : Z2.cell? ⟨V2.heap.size, 6, none⟩ = some (.bool i.rl) := BZ2.out.cell 6
    go_wp2_with (go_at_call 9; refine HV.out.mono ?_; clear HV; rintro e W3 ⟨rfl, dW⟩)
    go_ret
    exact ⟨rfl, D.out.trans (dW.mono D.out.size)⟩
theorem ListingParses.all (s : ByteArray) (w : World) (hL : LaidOk w) (w0 : s.size ≤ 140737488351232) :
    Calls Tryd.prog 4 #[.string s] w fun e w' => e = .returned (.bool true) ∧ Below w.heap.size w w' := parses_any s w hL
end Go.Proofs.YtihcljaphajdfaaDoor.Hand
