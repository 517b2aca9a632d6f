/- DERIVED. DERIVED. The operations' names. -/
import Derived.Test.YtihcljaphajdfaaGreatDoorProg
import Derived.Test.YtihcljaphajdfaaGreatDoorMBits
import Derived.Test.YtihcljaphajdfaaGreatDoorMWalk
import Derived.Test.YtihcljaphajdfaaGreatDoorMTab
import Derived.Test.YtihcljaphajdfaaGreatDoorMInst
import Derived.Test.YtihcljaphajdfaaGreatDoorMDec
import Derived.Test.YtihcljaphajdfaaGreatDoorMDec2
import Derived.Test.YtihcljaphajdfaaGreatDoorMQTail
import Derived.Test.YtihcljaphajdfaaGreatDoorMArg
import Derived.Test.YtihcljaphajdfaaGreatDoorMRow
import Derived.Test.YtihcljaphajdfaaGreatDoorMOpen
import Derived.Test.YtihcljaphajdfaaGreatDoorMPart
import Derived.Test.YtihcljaphajdfaaGreatDoorMStore
import Derived.Test.YtihcljaphajdfaaGreatDoorMReg
import Derived.Test.YtihcljaphajdfaaGreatDoorMQTwo
import Derived.Test.YtihcljaphajdfaaGreatDoorMQTail
import Derived.Test.YtihcljaphajdfaaGreatDoorMStore
import Derived.Test.YtihcljaphajdfaaGreatDoorHA
import Derived.Test.YtihcljaphajdfaaGreatDoorPAllx2
import Derived.Test.YtihcljaphajdfaaGreatDoorPAllx4
import Derived.Test.YtihcljaphajdfaaGreatDoorPAllx8
import Derived.Test.YtihcljaphajdfaaGreatDoorPAllx9
import Derived.Test.YtihcljaphajdfaaGreatDoorPAllx10
import Derived.Below
import Derived.Deep.Draws
import Derived.Deep.AppendLies
import Derived.Maps.AppendAt
import Derived.OwnWalk
import Derived.Laws.BytesArg
import Derived.Laws.MakeOwn
import Derived.Laws.OwnMore
import Derived.Deep.OwnRows
import Derived.Tactics
import Derived.Lib.ConvBytes
import Derived.Laws.Slices
import Derived.WalkKit
import Derived.KernelRfl
import Derived.RowKit3
import Derived.Deep.LoopGhost
import Derived.Deep.QuietTactic
import Derived.BigQuiet
import Derived.WideLaws
import Derived.Deep.DeepCutAuto
import Derived.Deep.CutBlock
import Derived.Deep.RegionHeld3
import Derived.Laws.Rows
import Derived.Lib.AppendStr
import Derived.ArgAppend
import Derived.Laws.IdiomCopy
import Derived.OrdersHeld
import Derived.Laws.BitsLemmas
import Derived.Laws.Bits64
import Derived.RowKit
import Derived.Outline
import Derived.Handy
import Derived.Lib.Hide
import Derived.Deep.Light
import Derived.Laws.CopyOwn
import Derived.Lib.ItoaLen
import Derived.Deep.CutRange
import Derived.StillTail
import Derived.Shelf.RegionOpen
import Derived.Lib.QuietBelow
import Derived.Lib.AppendIntMem
import Derived.Laws.AppendOwnNone
import Derived.Shelf.Strings.Prefix
import Derived.Shelf.Strings.Split
import Derived.Shelf.Strings.Cut
import Derived.Shelf.Strings.Builder1
import Derived.Shelf.Strconv.AtoiAll
import Derived.Shelf.Strconv.Itoa3
import Derived.Ground.NamesProg
import Derived.Lib.AtoiTie
import Derived.Lib.AtoiErrMem
import Derived.Shelf.Vars
namespace Go.Proofs.YtihcljaphajdfaaGreatDoor.Hand
open Go Go.RowKit Go.Proofs.YtihcljaphajdfaaGreatDoor.M Go.Proofs.YtihcljaphajdfaaGreatDoor.PAll Go.Proofs.YtihcljaphajdfaaGreatDoorW.PrintWords
set_option linter.unusedVariables false
set_option linter.unusedSimpArgs false
attribute [local go_sem] Oper.semAt_some
/-- The operations' names. -/
def nameTab : List (List UInt8) := [[108, 117, 105], [97, 117, 105, 112, 99], [106, 97, 108], [106, 97, 108, 114], [98, 101, 113], [98, 110, 101], [98, 108, 116], [98, 103, 101], [98, 108, 116, 117], [98, 103, 101, 117], [108, 98], [108, 104], [108, 119], [108, 100], [108, 98, 117], [108, 104, 117], [108, 119, 117], [115, 98], [115, 104], [115, 119], [115, 100], [97, 100, 100, 105], [115, 108, 116, 105], [115, 108, 116, 105, 117], [120, 111, 114, 105], [111, 114, 105], [97, 110, 100, 105], [115, 108, 108, 105], [115, 114, 108, 105], [115, 114, 97, 105], [97, 100, 100], [115, 117, 98], [115, 108, 108], [115, 108, 116], [115, 108, 116, 117], [120, 111, 114], [115, 114, 108], [115, 114, 97], [111, 114], [97, 110, 100], [97, 100, 100, 105, 119], [115, 108, 108, 105, 119], [115, 114, 108, 105, 119], [115, 114, 97, 105, 119], [97, 100, 100, 119], [115, 117, 98, 119], [115, 108, 108, 119], [115, 114, 108, 119], [115, 114, 97, 119], [102, 101, 110, 99, 101], [101, 99, 97, 108, 108], [101, 98, 114, 101, 97, 107], [109, 117, 108], [109, 117, 108, 104], [109, 117, 108, 104, 115, 117], [109, 117, 108, 104, 117], [100, 105, 118], [100, 105, 118, 117], [114, 101, 109], [114, 101, 109, 117], [109, 117, 108, 119], [100, 105, 118, 119], [100, 105, 118, 117, 119], [114, 101, 109, 119], [114, 101, 109, 117, 119], [108, 114, 46, 119], [115, 99, 46, 119], [97, 109, 111, 115, 119, 97, 112, 46, 119], [97, 109, 111, 97, 100, 100, 46, 119], [97, 109, 111, 120, 111, 114, 46, 119], [97, 109, 111, 97, 110, 100, 46, 119], [97, 109, 111, 111, 114, 46, 119], [97, 109, 111, 109, 105, 110, 46, 119], [97, 109, 111, 109, 97, 120, 46, 119], [97, 109, 111, 109, 105, 110, 117, 46, 119], [97, 109, 111, 109, 97, 120, 117, 46, 119], [108, 114, 46, 100], [115, 99, 46, 100], [97, 109, 111, 115, 119, 97, 112, 46, 100], [97, 109, 111, 97, 100, 100, 46, 100], [97, 109, 111, 120, 111, 114, 46, 100], [97, 109, 111, 97, 110, 100, 46, 100], [97, 109, 111, 111, 114, 46, 100], [97, 109, 111, 109, 105, 110, 46, 100], [97, 109, 111, 109, 97, 120, 46, 100], [97, 109, 111, 109, 105, 110, 117, 46, 100], [97, 109, 111, 109, 97, 120, 117, 46, 100]]
def nameL (op : Int) : List UInt8 := if 1 ≤ op ∧ op ≤ 87 then nameTab.getD (op - 1).toNat [] else []
def nameCells : Array Value := (nameTab.map fun l => Value.string ⟨l.toArray⟩).toArray
theorem nameTab_len : nameTab.length = 87 := by decide +kernel
theorem wpList_table {P : Program} {ops : Array Oper} {Q : Exit → Act → World → Prop} {rest : List Oper} {o : Oper} {a : Act} {w : World} (hg : o.guard = none) (t : TypeId) (parts : Array (Nat × Operand)) (ho : o.op = .build t parts) (cells : Array Value)
    (hb : P.built t (parts.map fun (i, x) => (i, a.eval x)).toList = some cells) (h : wpList P ops Q rest (a.put o.dst (.agg cells)) w) : wpList P ops Q (o :: rest) a w := by
  refine wpList_builds rest [o] a _ ?_ h
  unfold runBuilds
  rw [hg, ho]
  simp only [hb]
  rfl
set_option maxHeartbeats 2000000 in
set_option maxRecDepth 100000 in
theorem name_any (op : Int) (w : World) (h1 : 1 ≤ op) (h2 : op ≤ 87) : Calls Tryz.prog 19 #[.int .i64 op] w fun e w' => e = .returned (.string ⟨(nameL op).toArray⟩) ∧ Below w.heap.size w w' := by
  go_enter Tryz.func19, Tryz.ntmps19
  go_upto_region 2 with (first
    | (refine wpList_table rfl 76 _ rfl nameCells (by kernel_rfl) ?_)
    | (refine wpList_store_row rfl 76 (.tmp 3) (.tmp 4) rfl w.heap.size nameCells rfl rfl 76 _ (Blk.new w _ _) (by kernel_rfl) (by kernel_rfl) (by kernel_rfl) ?_; (generalize hX : World.setRow _ _ _ = X)))
  have B : Blk X w.heap.size nameCells 76 := hX ▸ (Blk.new w _ 76).row nameCells
  have dX : Below w.heap.size w X := hX ▸ below_row ((Below.refl w.heap.size w).alloc (Nat.le_refl _) _) (Nat.le_refl _) nameCells
  clear hX
  have D := Lib.hid dX
  have c1 : X.cell? ⟨w.heap.size, op.toNat - 1, none⟩ = some (.string ⟨(nameL op).toArray⟩) := by
    have e := B.cell (op.toNat - 1)
    rw [e]
    unfold nameCells nameL
    rw [if_pos ⟨h1, h2⟩, List.getElem?_toArray, List.getElem?_map, show op.toNat - 1 = (op - 1).toNat by omega, List.getElem?_eq_getElem (show (op - 1).toNat < nameTab.length by rw [nameTab_len]; omega), List.getD_eq_getElem?_getD, List.getElem?_eq_getElem (show (op - 1).toNat < nameTab.length by rw [nameTab_len]; omega)]
    rfl
  clear B dX
  go_wp2_with fail
  go_ret
  exact ⟨rfl, D.out⟩
set_option maxHeartbeats 2000000 in
set_option maxRecDepth 100000 in
theorem rName_any (op : Int) (w : World) : Calls Tryz.prog 35 #[.int .i64 op] w fun e w' => e = .returned (.string ⟨(nameL op).toArray⟩) ∧ Below w.heap.size w w' := by
  go_enter Tryz.func35, Tryz.ntmps35
  go_upto_region 2 with (first
    | (refine wpList_table rfl 76 _ rfl nameCells (by kernel_rfl) ?_)
    | (refine wpList_store_row rfl 76 (.tmp 3) (.tmp 4) rfl w.heap.size nameCells rfl rfl 76 _ (Blk.new w _ _) (by kernel_rfl) (by kernel_rfl) (by kernel_rfl) ?_; (generalize hX : World.setRow _ _ _ = X)))
  have B : Blk X w.heap.size nameCells 76 := hX ▸ (Blk.new w _ 76).row nameCells
  have dX : Below w.heap.size w X := hX ▸ below_row ((Below.refl w.heap.size w).alloc (Nat.le_refl _) _) (Nat.le_refl _) nameCells
  clear hX
  have D := Lib.hid dX
  by_cases hr : 1 ≤ op ∧ op ≤ 87
  · obtain ⟨h1, h2⟩ := hr
    have c1 : X.cell? ⟨w.heap.size, op.toNat - 1, none⟩ = some (.string ⟨(nameL op).toArray⟩) := by
      have e := B.cell (op.toNat - 1)
      rw [e]
      unfold nameCells nameL
      rw [if_pos ⟨h1, h2⟩, List.getElem?_toArray, List.getElem?_map, show op.toNat - 1 = (op - 1).toNat by omega, List.getElem?_eq_getElem (show (op - 1).toNat < nameTab.length by rw [nameTab_len]; omega), List.getD_eq_getElem?_getD, List.getElem?_eq_getElem (show (op - 1).toNat < nameTab.length by rw [nameTab_len]; omega)]
      rfl
    clear B dX
    have h3 : ¬ op < 1 := by omega
    have h4 : ¬ 87 < op := by omega
    go_wp2_with fail
    go_ret
    exact ⟨rfl, D.out⟩
  · have e : nameL op = [] := by unfold nameL; rw [if_neg hr]
    clear B dX
    by_cases h3 : op < 1
    · go_wp2_with fail
      go_ret
      exact ⟨by first | rfl | (rw [e]; rfl), D.out⟩
    · have h4 : 87 < op := by omega
      go_wp2_with fail
      go_ret
      exact ⟨by first | rfl | (rw [e]; rfl), D.out⟩
section
/- DERIVED. An instruction's line; what its parts are. -/
attribute [local go_sem] Oper.semAt_some
theorem alloc_str (w : World) : (Instr.alloc 9 true (.tuple #[])).run Tryz.prog w = .ok (.pointer (some ⟨w.heap.size, 0, none⟩)) (w.alloc (.cells #[.string ⟨#[]⟩] 9)) := by kernel_rfl
theorem str_info : (Tryz.prog.info? 9).map (·.size) = some 1 := by kernel_rfl
theorem i64_info : (Tryz.prog.info? 3).map (·.size) = some 1 := by kernel_rfl
theorem below_setc {B g : Nat} {w V : World} (h : Below B w V) (hg : B ≤ g) (j : Nat) (u : Value) : Below B w (V.setCell ⟨g, j, none⟩ u) :=
  ⟨h.os, h.tape, h.output, by simpa [World.setCell] using h.size, fun k hk => (Below.heap_setCell V ⟨g, j, none⟩ u k (by show k ≠ g; omega)).trans (h.block k hk)⟩
structure Ins where
  op : Int
  rd : Int
  rs1 : Int
  rs2 : Int
  imm : Int
  aq : Bool
  rl : Bool
def Ins.cells (i : Ins) : Array Value := #[.int .i64 i.op, .int .i64 i.rd, .int .i64 i.rs1, .int .i64 i.rs2, .int .i64 i.imm, .bool i.aq, .bool i.rl]
def Ins.good (i : Ins) : Bool := goodOf i.op i.rd i.rs1 i.rs2 i.imm i.aq i.rl
structure Ins.Ok (i : Ins) : Prop where
  op : I64 i.op
  rd : I64 i.rd
  rs1 : I64 i.rs1
  rs2 : I64 i.rs2
  imm : I64 i.imm
def sufL (aq rl : Bool) : List UInt8 := if aq then (if rl then [46, 97, 113, 114, 108] else [46, 97, 113]) else (if rl then [46, 114, 108] else [])
def fldL (b : Bool) (h : List UInt8) (n : Int) : List UInt8 := if b then h ++ Lib.itoa n else []
/-- An instruction's line. -/
def textL (i : Ins) : List UInt8 := if i.good = true then
    ((((nameL i.op ++ sufL i.aq i.rl) ++ fldL (hasRd (formOf i.op)) [32, 120] i.rd) ++ fldL (hasRs1 (formOf i.op)) [32, 120] i.rs1) ++ fldL (hasRs2 (formOf i.op)) [32, 120] i.rs2) ++ fldL (hasImm (formOf i.op)) [32] i.imm
  else []
theorem ins_info : (Tryz.prog.info? 33).map (·.size) = some 7 := by kernel_rfl
theorem Ins.len (i : Ins) : i.cells.size = 7 := rfl
theorem Ins.one (i : Ins) : i.cells.all (·.oneCell') = true := by kernel_rfl
theorem Good_any (i : Ins) (h : i.Ok) (w : World) : Calls Tryz.prog 24 #[.agg i.cells] w fun e w' => e = .returned (.bool i.good) ∧ Below w.heap.size w w' :=
  inst_Good.calls i.op i.rd i.rs1 i.rs2 i.imm i.aq i.rl _ w (by unfold inst_Good.f; rw [if_pos h.imm]; rfl)
theorem suffix_any (aq rl : Bool) (w : World) : Calls Tryz.prog 25 #[.bool aq, .bool rl] w fun e w' => e = .returned (.string ⟨(sufL aq rl).toArray⟩) ∧ Below w.heap.size w w' :=
  (listing_suffix.calls 3 aq rl _ w (by cases aq <;> cases rl <;> rfl)).mono fun e w' ⟨h, d⟩ => ⟨h, d.below⟩
/-- Which parts a line has, as a number. -/
def partsOf (op : Int) : Int := (listing_parts.f 20 op).getD 0
theorem parts_any (op : Int) (h1 : 1 ≤ op) (h2 : op ≤ 87) (w : World) : Calls Tryz.prog 23 #[.int .i64 op] w fun e w' => e = .returned (.int .i64 (partsOf op)) ∧ Below w.heap.size w w' := by
  refine (listing_parts.calls 20 op (partsOf op) w ?_).mono fun e w' ⟨h, d⟩ => ⟨h, d.below⟩
  have : ∀ n : Nat, n < 87 → listing_parts.f 20 ((n : Int) + 1) = some (partsOf ((n : Int) + 1)) := by decide +kernel
  have h := this (op - 1).toNat (by omega)
  rwa [show (((op - 1).toNat : Nat) : Int) + 1 = op by omega] at h
theorem good_range (i : Ins) (h : i.good = true) : 1 ≤ i.op ∧ i.op ≤ 87 := by
  unfold Ins.good goodOf at h
  rw [Bool.and_eq_true, decide_eq_true_eq] at h
  have h := h.1
  unfold formOf at h
  split at h
  · assumption
  · omega
theorem str_cat (a b : List UInt8) : (⟨a.toArray⟩ : ByteArray) ++ ⟨b.toArray⟩ = ⟨(a ++ b).toArray⟩ := by
  apply ByteArray.ext
  rw [ByteArray.data_append]
  simp
theorem nameTab_short : ∀ l ∈ nameTab, l.length ≤ 9 := by decide +kernel
theorem name_len (op : Int) : (nameL op).length ≤ 9 := by
  unfold nameL
  split
  · rename_i h
    have hl : (op - 1).toNat < nameTab.length := by rw [nameTab_len]; omega
    rw [List.getD_eq_getElem?_getD, List.getElem?_eq_getElem hl]
    exact nameTab_short _ (List.getElem_mem _)
  · exact Nat.zero_le _
theorem suf_len (aq rl : Bool) : (sufL aq rl).length ≤ 5 := by cases aq <;> cases rl <;> decide
end
section
/- DERIVED. A part of a line is added: the closure in Text. -/
attribute [local go_sem] Oper.semAt_some
/-- Behind a call of the closure: the line has grown; nothing else of old has changed. -/
def AddPost (w : World) (gs : Nat) (s : List UInt8) : Ending → World → Prop := fun e w' =>
  e = .returned (.tuple #[]) ∧ Blk w' gs #[.string ⟨s.toArray⟩] 9 ∧ w.grownBy w' (some gs)
theorem grown_belowc {w W W' : World} {r : Option Nat} (h : w.grownBy W r) (d : Below W.heap.size W W') : w.grownBy W' r :=
  ⟨d.os.trans h.os, d.tape.trans h.tape, d.output.trans h.output, Nat.le_trans h.size d.size, fun k hk hne => (d.block k (Nat.lt_of_lt_of_le hk h.size)).trans (h.block k hk hne)⟩
theorem grown_setc {w W : World} {g : Nat} (h : w.grownBy W (some g)) (j : Nat) (u : Value) : w.grownBy (W.setCell ⟨g, j, none⟩ u) (some g) :=
  ⟨h.os, h.tape, h.output, by simpa [World.setCell] using h.size, fun k hk hne => (Below.heap_setCell W ⟨g, j, none⟩ u k (fun e => hne (by rw [e]))).trans (h.block k hk hne)⟩
set_option maxRecDepth 100000 in
set_option maxHeartbeats 2000000 in
theorem add_any (bit n p : Int) (hd s : List UInt8) (gp gs : Nat) (b : Bool) (w : World) (hL : LaidOk w) (hn : I64 n) (hb : decide (0 < Go.bits .and .i64 p bit) = b) (Bp : Blk w gp #[.int .i64 p] 3) (Bs : Blk w gs #[.string ⟨s.toArray⟩] 9) (hgg : gs < w.heap.size)
    (hs : s.length ≤ 1000) (hh : hd.length ≤ 10) (hit : (Lib.itoa n).length ≤ 1000) :
    Calls Tryz.prog 26 #[.int .i64 bit, .string ⟨hd.toArray⟩, .int .i64 n, .pointer (some ⟨gp, 0, none⟩), .pointer (some ⟨gs, 0, none⟩)] w (AddPost w gs (s ++ fldL b (32 :: hd) n)) := by
  have c0 : w.cell? ⟨gp, 0, none⟩ = some (.int .i64 p) := Bp.cell 0
  have c1 : w.cell? ⟨gs, 0, none⟩ = some (.string ⟨s.toArray⟩) := Bs.cell 0
  have HB := Lib.hid Bs
  have HI := Lib.hid fun (W : World) (d : Below w.heap.size w W) => Itoa_any n W hn (hL.below d)
  clear Bp Bs hL
  cases b
  · have hb2 : ¬ 0 < Go.bits .and .i64 p bit := of_decide_eq_false hb
    have hfl : fldL false (32 :: hd) n = [] := rfl
    rw [hfl, List.append_nil]
    clear hb
    go_enter Tryz.func26, Tryz.ntmps26
    go_wp2_with fail
    go_end0
    exact ⟨rfl, HB.out, World.grownBy.refl _ _⟩
  · have hb2 : 0 < Go.bits .and .i64 p bit := of_decide_eq_true hb
    clear hb
    have e1 := str_cat [32] hd
    have e2 := str_cat ([32] ++ hd) (Lib.itoa n)
    have e3 := str_cat s (([32] ++ hd) ++ Lib.itoa n)
    go_enter Tryz.func26, Tryz.ntmps26
    go_upto_region 1 with fail
    have r1 := cell_regrown c1
    clear c0 c1
    refine wp_region_below_tail 7 (by kernel_rfl) (by kernel_rfl) ?_
    simp only [List.take_succ_cons, List.take_zero, List.drop_succ_cons, List.drop_zero]
    have HI2 := Lib.hid fun (d : Nat) (os : Array Obj) => Calls.regrown_of (HI.out _ (below_regrown w d os))
    repeat go_big_quiet_step (exact HI2.out _ _)
    refine wpQuiet_nil ?_
    intro _ hw'
    obtain ⟨⟨dq, osq⟩, hw''⟩ := hw'
    subst hw''
    clear r1 HI HI2
    have dY := below_regrown w dq osq
    have HY := Lib.hid (HB.out.below dY)
    replace dY := Lib.hid dY
    generalize Sort.grow (redrawn w dq) osq = Y at *
    have c1 : Y.cell? ⟨gs, 0, none⟩ = some (.string ⟨s.toArray⟩) := HY.out.cell 0
    have hfz := HY.out.frozen 0
    go_wp2_with fail
    generalize hZ : World.setCell Y _ _ = Z
    have BZ : Blk Z gs #[.string ((⟨s.toArray⟩ : ByteArray) ++ ((⟨(32 :: hd).toArray⟩ : ByteArray) ++ ⟨(Lib.itoa n).toArray⟩))] 9 := hZ ▸ HY.out.set 0 _
    rw [str_cat, str_cat] at BZ
    have GZ : w.grownBy Z (some gs) := hZ ▸ grown_setc ⟨dY.out.os, dY.out.tape, dY.out.output, dY.out.size, fun k hk _ => dY.out.block k hk⟩ 0 _
    clear hZ
    go_end0
    exact ⟨rfl, BZ, GZ⟩
end
end Go.Proofs.YtihcljaphajdfaaGreatDoor.Hand
