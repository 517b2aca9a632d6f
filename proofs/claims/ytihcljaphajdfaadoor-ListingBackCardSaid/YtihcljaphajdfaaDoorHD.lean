/- DERIVED. DERIVED. A part of a line is added: the closure in Text. -/
import Derived.Test.YtihcljaphajdfaaDoorProg
import Derived.Test.YtihcljaphajdfaaDoorMBits
import Derived.Test.YtihcljaphajdfaaDoorMWalk
import Derived.Test.YtihcljaphajdfaaDoorMTab
import Derived.Test.YtihcljaphajdfaaDoorMInst
import Derived.Test.YtihcljaphajdfaaDoorMDec
import Derived.Test.YtihcljaphajdfaaDoorMDec2
import Derived.Test.YtihcljaphajdfaaDoorMQTail
import Derived.Test.YtihcljaphajdfaaDoorMArg
import Derived.Test.YtihcljaphajdfaaDoorMRow
import Derived.Test.YtihcljaphajdfaaDoorMOpen
import Derived.Test.YtihcljaphajdfaaDoorMPart
import Derived.Test.YtihcljaphajdfaaDoorMStore
import Derived.Test.YtihcljaphajdfaaDoorMReg
import Derived.Test.YtihcljaphajdfaaDoorMQTwo
import Derived.Test.YtihcljaphajdfaaDoorMQTail
import Derived.Test.YtihcljaphajdfaaDoorMStore
import Derived.Test.YtihcljaphajdfaaDoorHC
import Derived.Test.YtihcljaphajdfaaDoorPAllx3
import Derived.Test.YtihcljaphajdfaaDoorPAllx4
import Derived.Test.YtihcljaphajdfaaDoorPAllx6
import Derived.Test.YtihcljaphajdfaaDoorPAllx9
import Derived.Test.YtihcljaphajdfaaDoorPAllx11
import Derived.Below
import Derived.Deep.Draws
import Derived.Deep.AppendLies
import Derived.Maps.AppendAt
import Derived.OwnWalk
import Derived.Laws.BytesArg
import Derived.Laws.MakeOwn
import Derived.Laws.OwnMore
import Derived.Deep.OwnRows
import Derived.Tactics
import Derived.Lib.ConvBytes
import Derived.Laws.Slices
import Derived.WalkKit
import Derived.KernelRfl
import Derived.RowKit3
import Derived.Deep.LoopGhost
import Derived.Deep.QuietTactic
import Derived.BigQuiet
import Derived.WideLaws
import Derived.Deep.DeepCutAuto
import Derived.Deep.CutBlock
import Derived.Deep.RegionHeld3
import Derived.Laws.Rows
import Derived.Lib.AppendStr
import Derived.ArgAppend
import Derived.Laws.IdiomCopy
import Derived.OrdersHeld
import Derived.Laws.BitsLemmas
import Derived.Laws.Bits64
import Derived.RowKit
import Derived.Outline
import Derived.Handy
import Derived.Lib.Hide
import Derived.Deep.Light
import Derived.Laws.CopyOwn
import Derived.Lib.ItoaLen
import Derived.Deep.CutRange
import Derived.StillTail
import Derived.Shelf.RegionOpen
import Derived.Lib.QuietBelow
import Derived.Lib.AppendIntMem
import Derived.Laws.AppendOwnNone
import Derived.Shelf.Strings.Prefix
import Derived.Shelf.Strings.Split
import Derived.Shelf.Strings.Cut
import Derived.Shelf.Strings.Builder1
import Derived.Shelf.Strconv.AtoiAll
import Derived.Shelf.Strconv.Itoa3
import Derived.Ground.NamesProg
import Derived.Lib.AtoiTie
import Derived.Lib.AtoiErrMem
import Derived.Shelf.Vars
namespace Go.Proofs.YtihcljaphajdfaaDoor.Hand
open Go Go.RowKit Go.Proofs.YtihcljaphajdfaaDoor.M Go.Proofs.YtihcljaphajdfaaDoor.PAll Go.Proofs.YtihcljaphajdfaaDoorW.PrintWords
set_option linter.unusedVariables false
set_option linter.unusedSimpArgs false
attribute [local go_sem] Oper.semAt_some
/-- Behind a call of the closure: the line has grown; nothing else of old has changed. -/
def AddPost (w : World) (gs : Nat) (s : List UInt8) : Ending → World → Prop := fun e w' =>
  e = .returned (.tuple #[]) ∧ Blk w' gs #[.string ⟨s.toArray⟩] 9 ∧ w.grownBy w' (some gs)
theorem grown_belowc {w W W' : World} {r : Option Nat} (h : w.grownBy W r) (d : Below W.heap.size W W') : w.grownBy W' r :=
  ⟨d.os.trans h.os, d.tape.trans h.tape, d.output.trans h.output, Nat.le_trans h.size d.size, fun k hk hne => (d.block k (Nat.lt_of_lt_of_le hk h.size)).trans (h.block k hk hne)⟩
theorem grown_setc {w W : World} {g : Nat} (h : w.grownBy W (some g)) (j : Nat) (u : Value) : w.grownBy (W.setCell ⟨g, j, none⟩ u) (some g) :=
  ⟨h.os, h.tape, h.output, by simpa [World.setCell] using h.size, fun k hk hne => (Below.heap_setCell W ⟨g, j, none⟩ u k (fun e => hne (by rw [e]))).trans (h.block k hk hne)⟩
set_option maxRecDepth 100000 in
set_option maxHeartbeats 2000000 in
theorem add_any (bit n p : Int) (hd s : List UInt8) (gp gs : Nat) (b : Bool) (w : World) (hL : LaidOk w) (hn : I64 n) (hb : decide (0 < Go.bits .and .i64 p bit) = b) (Bp : Blk w gp #[.int .i64 p] 3) (Bs : Blk w gs #[.string ⟨s.toArray⟩] 9) (hgg : gs < w.heap.size)
    (hs : s.length ≤ 1000) (hh : hd.length ≤ 10) (hit : (Lib.itoa n).length ≤ 1000) :
    Calls Tryd.prog 20 #[.int .i64 bit, .string ⟨hd.toArray⟩, .int .i64 n, .pointer (some ⟨gp, 0, none⟩), .pointer (some ⟨gs, 0, none⟩)] w (AddPost w gs (s ++ fldL b (32 :: hd) n)) := by
  have c0 : w.cell? ⟨gp, 0, none⟩ = some (.int .i64 p) := Bp.cell 0
  have c1 : w.cell? ⟨gs, 0, none⟩ = some (.string ⟨s.toArray⟩) := Bs.cell 0
  have HB := Lib.hid Bs
  have HI := Lib.hid fun (W : World) (d : Below w.heap.size w W) => Itoa_any n W hn (hL.below d)
  clear Bp Bs hL
  cases b
  · have hb2 : ¬ 0 < Go.bits .and .i64 p bit := of_decide_eq_false hb
    have hfl : fldL false (32 :: hd) n = [] := rfl
    rw [hfl, List.append_nil]
    clear hb
    go_enter Tryd.func20, Tryd.ntmps20
    go_wp2_with fail
    go_end0
    exact ⟨rfl, HB.out, World.grownBy.refl _ _⟩
  · have hb2 : 0 < Go.bits .and .i64 p bit := of_decide_eq_true hb
    clear hb
    have e1 := str_cat [32] hd
    have e2 := str_cat ([32] ++ hd) (Lib.itoa n)
    have e3 := str_cat s (([32] ++ hd) ++ Lib.itoa n)
    go_enter Tryd.func20, Tryd.ntmps20
    go_upto_region 1 with fail
    have r1 := cell_regrown c1
    clear c0 c1
    refine wp_region_below_tail 7 (by kernel_rfl) (by kernel_rfl) ?_
    simp only [List.take_succ_cons, List.take_zero, List.drop_succ_cons, List.drop_zero]
    have HI2 := Lib.hid fun (d : Nat) (os : Array Obj) => Calls.regrown_of (HI.out _ (below_regrown w d os))
    repeat go_big_quiet_step (exact HI2.out _ _)
    refine wpQuiet_nil ?_
    intro _ hw'
    obtain ⟨⟨dq, osq⟩, hw''⟩ := hw'
    subst hw''
    clear r1 HI HI2
    have dY := below_regrown w dq osq
    have HY := Lib.hid (HB.out.below dY)
    replace dY := Lib.hid dY
    generalize Sort.grow (redrawn w dq) osq = Y at *
    have c1 : Y.cell? ⟨gs, 0, none⟩ = some (.string ⟨s.toArray⟩) := HY.out.cell 0
    have hfz := HY.out.frozen 0
    go_wp2_with fail
    generalize hZ : World.setCell Y _ _ = Z
    have BZ : Blk Z gs #[.string ((⟨s.toArray⟩ : ByteArray) ++ ((⟨(32 :: hd).toArray⟩ : ByteArray) ++ ⟨(Lib.itoa n).toArray⟩))] 9 := hZ ▸ HY.out.set 0 _
    rw [str_cat, str_cat] at BZ
    have GZ : w.grownBy Z (some gs) := hZ ▸ grown_setc ⟨dY.out.os, dY.out.tape, dY.out.output, dY.out.size, fun k hk _ => dY.out.block k hk⟩ 0 _
    clear hZ
    go_end0
    exact ⟨rfl, BZ, GZ⟩
end Go.Proofs.YtihcljaphajdfaaDoor.Hand
