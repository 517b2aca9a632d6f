/- DERIVED. DERIVED. An instruction's line; what its parts are. -/
import Derived.Test.YtihcljaphajdfaaDoorProg
import Derived.Test.YtihcljaphajdfaaDoorMBits
import Derived.Test.YtihcljaphajdfaaDoorMWalk
import Derived.Test.YtihcljaphajdfaaDoorMTab
import Derived.Test.YtihcljaphajdfaaDoorMInst
import Derived.Test.YtihcljaphajdfaaDoorMDec
import Derived.Test.YtihcljaphajdfaaDoorMDec2
import Derived.Test.YtihcljaphajdfaaDoorMQTail
import Derived.Test.YtihcljaphajdfaaDoorMArg
import Derived.Test.YtihcljaphajdfaaDoorMRow
import Derived.Test.YtihcljaphajdfaaDoorMOpen
import Derived.Test.YtihcljaphajdfaaDoorMPart
import Derived.Test.YtihcljaphajdfaaDoorMStore
import Derived.Test.YtihcljaphajdfaaDoorMReg
import Derived.Test.YtihcljaphajdfaaDoorMQTwo
import Derived.Test.YtihcljaphajdfaaDoorMQTail
import Derived.Test.YtihcljaphajdfaaDoorMStore
import Derived.Test.YtihcljaphajdfaaDoorHB
import Derived.Test.YtihcljaphajdfaaDoorPAllx3
import Derived.Test.YtihcljaphajdfaaDoorPAllx4
import Derived.Test.YtihcljaphajdfaaDoorPAllx6
import Derived.Test.YtihcljaphajdfaaDoorPAllx9
import Derived.Test.YtihcljaphajdfaaDoorPAllx11
import Derived.Below
import Derived.Deep.Draws
import Derived.Deep.AppendLies
import Derived.Maps.AppendAt
import Derived.OwnWalk
import Derived.Laws.BytesArg
import Derived.Laws.MakeOwn
import Derived.Laws.OwnMore
import Derived.Deep.OwnRows
import Derived.Tactics
import Derived.Lib.ConvBytes
import Derived.Laws.Slices
import Derived.WalkKit
import Derived.KernelRfl
import Derived.RowKit3
import Derived.Deep.LoopGhost
import Derived.Deep.QuietTactic
import Derived.BigQuiet
import Derived.WideLaws
import Derived.Deep.DeepCutAuto
import Derived.Deep.CutBlock
import Derived.Deep.RegionHeld3
import Derived.Laws.Rows
import Derived.Lib.AppendStr
import Derived.ArgAppend
import Derived.Laws.IdiomCopy
import Derived.OrdersHeld
import Derived.Laws.BitsLemmas
import Derived.Laws.Bits64
import Derived.RowKit
import Derived.Outline
import Derived.Handy
import Derived.Lib.Hide
import Derived.Deep.Light
import Derived.Laws.CopyOwn
import Derived.Lib.ItoaLen
import Derived.Deep.CutRange
import Derived.StillTail
import Derived.Shelf.RegionOpen
import Derived.Lib.QuietBelow
import Derived.Lib.AppendIntMem
import Derived.Laws.AppendOwnNone
import Derived.Shelf.Strings.Prefix
import Derived.Shelf.Strings.Split
import Derived.Shelf.Strings.Cut
import Derived.Shelf.Strings.Builder1
import Derived.Shelf.Strconv.AtoiAll
import Derived.Shelf.Strconv.Itoa3
import Derived.Ground.NamesProg
import Derived.Lib.AtoiTie
import Derived.Lib.AtoiErrMem
import Derived.Shelf.Vars
namespace Go.Proofs.YtihcljaphajdfaaDoor.Hand
open Go Go.RowKit Go.Proofs.YtihcljaphajdfaaDoor.M Go.Proofs.YtihcljaphajdfaaDoor.PAll Go.Proofs.YtihcljaphajdfaaDoorW.PrintWords
set_option linter.unusedVariables false
set_option linter.unusedSimpArgs false
attribute [local go_sem] Oper.semAt_some
theorem alloc_str (w : World) : (Instr.alloc 9 true (.tuple #[])).run Tryd.prog w = .ok (.pointer (some ⟨w.heap.size, 0, none⟩)) (w.alloc (.cells #[.string ⟨#[]⟩] 9)) := by kernel_rfl
theorem str_info : (Tryd.prog.info? 9).map (·.size) = some 1 := by kernel_rfl
theorem i64_info : (Tryd.prog.info? 3).map (·.size) = some 1 := by kernel_rfl
theorem below_setc {B g : Nat} {w V : World} (h : Below B w V) (hg : B ≤ g) (j : Nat) (u : Value) : Below B w (V.setCell ⟨g, j, none⟩ u) :=
  ⟨h.os, h.tape, h.output, by simpa [World.setCell] using h.size, fun k hk => (Below.heap_setCell V ⟨g, j, none⟩ u k (by show k ≠ g; omega)).trans (h.block k hk)⟩
structure Ins where
  op : Int
  rd : Int
  rs1 : Int
  rs2 : Int
  imm : Int
  aq : Bool
  rl : Bool
def Ins.cells (i : Ins) : Array Value := #[.int .i64 i.op, .int .i64 i.rd, .int .i64 i.rs1, .int .i64 i.rs2, .int .i64 i.imm, .bool i.aq, .bool i.rl]
def Ins.good (i : Ins) : Bool := goodOf i.op i.rd i.rs1 i.rs2 i.imm i.aq i.rl
structure Ins.Ok (i : Ins) : Prop where
  op : I64 i.op
  rd : I64 i.rd
  rs1 : I64 i.rs1
  rs2 : I64 i.rs2
  imm : I64 i.imm
def sufL (aq rl : Bool) : List UInt8 := if aq then (if rl then [46, 97, 113, 114, 108] else [46, 97, 113]) else (if rl then [46, 114, 108] else [])
def fldL (b : Bool) (h : List UInt8) (n : Int) : List UInt8 := if b then h ++ Lib.itoa n else []
/-- An instruction's line. -/
def textL (i : Ins) : List UInt8 := if i.good = true then
    ((((nameL i.op ++ sufL i.aq i.rl) ++ fldL (hasRd (formOf i.op)) [32, 120] i.rd) ++ fldL (hasRs1 (formOf i.op)) [32, 120] i.rs1) ++ fldL (hasRs2 (formOf i.op)) [32, 120] i.rs2) ++ fldL (hasImm (formOf i.op)) [32] i.imm
  else []
theorem ins_info : (Tryd.prog.info? 23).map (·.size) = some 7 := by kernel_rfl
theorem Ins.len (i : Ins) : i.cells.size = 7 := rfl
theorem Ins.one (i : Ins) : i.cells.all (·.oneCell') = true := by kernel_rfl
theorem Good_any (i : Ins) (h : i.Ok) (w : World) : Calls Tryd.prog 16 #[.agg i.cells] w fun e w' => e = .returned (.bool i.good) ∧ Below w.heap.size w w' :=
  inst_Good.calls i.op i.rd i.rs1 i.rs2 i.imm i.aq i.rl _ w (by unfold inst_Good.f; rw [if_pos h.imm]; rfl)
theorem suffix_any (aq rl : Bool) (w : World) : Calls Tryd.prog 18 #[.bool aq, .bool rl] w fun e w' => e = .returned (.string ⟨(sufL aq rl).toArray⟩) ∧ Below w.heap.size w w' :=
  (listing_suffix.calls 3 aq rl _ w (by cases aq <;> cases rl <;> rfl)).mono fun e w' ⟨h, d⟩ => ⟨h, d.below⟩
/-- Which parts a line has, as a number. -/
def partsOf (op : Int) : Int := (listing_parts.f 20 op).getD 0
theorem parts_any (op : Int) (h1 : 1 ≤ op) (h2 : op ≤ 87) (w : World) : Calls Tryd.prog 19 #[.int .i64 op] w fun e w' => e = .returned (.int .i64 (partsOf op)) ∧ Below w.heap.size w w' := by
  refine (listing_parts.calls 20 op (partsOf op) w ?_).mono fun e w' ⟨h, d⟩ => ⟨h, d.below⟩
  have : ∀ n : Nat, n < 87 → listing_parts.f 20 ((n : Int) + 1) = some (partsOf ((n : Int) + 1)) := by decide +kernel
  have h := this (op - 1).toNat (by omega)
  rwa [show (((op - 1).toNat : Nat) : Int) + 1 = op by omega] at h
theorem good_range (i : Ins) (h : i.good = true) : 1 ≤ i.op ∧ i.op ≤ 87 := by
  unfold Ins.good goodOf at h
  rw [Bool.and_eq_true, decide_eq_true_eq] at h
  have h := h.1
  unfold formOf at h
  split at h
  · assumption
  · omega
theorem str_cat (a b : List UInt8) : (⟨a.toArray⟩ : ByteArray) ++ ⟨b.toArray⟩ = ⟨(a ++ b).toArray⟩ := by
  apply ByteArray.ext
  rw [ByteArray.data_append]
  simp
theorem nameTab_short : ∀ l ∈ nameTab, l.length ≤ 9 := by decide +kernel
theorem name_len (op : Int) : (nameL op).length ≤ 9 := by
  unfold nameL
  split
  · rename_i h
    have hl : (op - 1).toNat < nameTab.length := by rw [nameTab_len]; omega
    rw [List.getD_eq_getElem?_getD, List.getElem?_eq_getElem hl]
    exact nameTab_short _ (List.getElem_mem _)
  · exact Nat.zero_le _
theorem suf_len (aq rl : Bool) : (sufL aq rl).length ≤ 5 := by cases aq <;> cases rl <;> decide
end Go.Proofs.YtihcljaphajdfaaDoor.Hand
