/- DERIVED. DERIVED. The operations' names. -/
import Derived.Test.YtihcljaphajdfaaDoorProg
import Derived.Test.YtihcljaphajdfaaDoorMBits
import Derived.Test.YtihcljaphajdfaaDoorMWalk
import Derived.Test.YtihcljaphajdfaaDoorMTab
import Derived.Test.YtihcljaphajdfaaDoorMInst
import Derived.Test.YtihcljaphajdfaaDoorMDec
import Derived.Test.YtihcljaphajdfaaDoorMDec2
import Derived.Test.YtihcljaphajdfaaDoorMQTail
import Derived.Test.YtihcljaphajdfaaDoorMArg
import Derived.Test.YtihcljaphajdfaaDoorMRow
import Derived.Test.YtihcljaphajdfaaDoorMOpen
import Derived.Test.YtihcljaphajdfaaDoorMPart
import Derived.Test.YtihcljaphajdfaaDoorMStore
import Derived.Test.YtihcljaphajdfaaDoorMReg
import Derived.Test.YtihcljaphajdfaaDoorMQTwo
import Derived.Test.YtihcljaphajdfaaDoorMQTail
import Derived.Test.YtihcljaphajdfaaDoorMStore
import Derived.Test.YtihcljaphajdfaaDoorHA
import Derived.Test.YtihcljaphajdfaaDoorPAllx3
import Derived.Test.YtihcljaphajdfaaDoorPAllx4
import Derived.Test.YtihcljaphajdfaaDoorPAllx6
import Derived.Test.YtihcljaphajdfaaDoorPAllx9
import Derived.Test.YtihcljaphajdfaaDoorPAllx11
import Derived.Below
import Derived.Deep.Draws
import Derived.Deep.AppendLies
import Derived.Maps.AppendAt
import Derived.OwnWalk
import Derived.Laws.BytesArg
import Derived.Laws.MakeOwn
import Derived.Laws.OwnMore
import Derived.Deep.OwnRows
import Derived.Tactics
import Derived.Lib.ConvBytes
import Derived.Laws.Slices
import Derived.WalkKit
import Derived.KernelRfl
import Derived.RowKit3
import Derived.Deep.LoopGhost
import Derived.Deep.QuietTactic
import Derived.BigQuiet
import Derived.WideLaws
import Derived.Deep.DeepCutAuto
import Derived.Deep.CutBlock
import Derived.Deep.RegionHeld3
import Derived.Laws.Rows
import Derived.Lib.AppendStr
import Derived.ArgAppend
import Derived.Laws.IdiomCopy
import Derived.OrdersHeld
import Derived.Laws.BitsLemmas
import Derived.Laws.Bits64
import Derived.RowKit
import Derived.Outline
import Derived.Handy
import Derived.Lib.Hide
import Derived.Deep.Light
import Derived.Laws.CopyOwn
import Derived.Lib.ItoaLen
import Derived.Deep.CutRange
import Derived.StillTail
import Derived.Shelf.RegionOpen
import Derived.Lib.QuietBelow
import Derived.Lib.AppendIntMem
import Derived.Laws.AppendOwnNone
import Derived.Shelf.Strings.Prefix
import Derived.Shelf.Strings.Split
import Derived.Shelf.Strings.Cut
import Derived.Shelf.Strings.Builder1
import Derived.Shelf.Strconv.AtoiAll
import Derived.Shelf.Strconv.Itoa3
import Derived.Ground.NamesProg
import Derived.Lib.AtoiTie
import Derived.Lib.AtoiErrMem
import Derived.Shelf.Vars
namespace Go.Proofs.YtihcljaphajdfaaDoor.Hand
open Go Go.RowKit Go.Proofs.YtihcljaphajdfaaDoor.M Go.Proofs.YtihcljaphajdfaaDoor.PAll Go.Proofs.YtihcljaphajdfaaDoorW.PrintWords
set_option linter.unusedVariables false
set_option linter.unusedSimpArgs false
attribute [local go_sem] Oper.semAt_some
/-- The operations' names. -/
def nameTab : List (List UInt8) := [[108, 117, 105], [97, 117, 105, 112, 99], [106, 97, 108], [106, 97, 108, 114], [98, 101, 113], [98, 110, 101], [98, 108, 116], [98, 103, 101], [98, 108, 116, 117], [98, 103, 101, 117], [108, 98], [108, 104], [108, 119], [108, 100], [108, 98, 117], [108, 104, 117], [108, 119, 117], [115, 98], [115, 104], [115, 119], [115, 100], [97, 100, 100, 105], [115, 108, 116, 105], [115, 108, 116, 105, 117], [120, 111, 114, 105], [111, 114, 105], [97, 110, 100, 105], [115, 108, 108, 105], [115, 114, 108, 105], [115, 114, 97, 105], [97, 100, 100], [115, 117, 98], [115, 108, 108], [115, 108, 116], [115, 108, 116, 117], [120, 111, 114], [115, 114, 108], [115, 114, 97], [111, 114], [97, 110, 100], [97, 100, 100, 105, 119], [115, 108, 108, 105, 119], [115, 114, 108, 105, 119], [115, 114, 97, 105, 119], [97, 100, 100, 119], [115, 117, 98, 119], [115, 108, 108, 119], [115, 114, 108, 119], [115, 114, 97, 119], [102, 101, 110, 99, 101], [101, 99, 97, 108, 108], [101, 98, 114, 101, 97, 107], [109, 117, 108], [109, 117, 108, 104], [109, 117, 108, 104, 115, 117], [109, 117, 108, 104, 117], [100, 105, 118], [100, 105, 118, 117], [114, 101, 109], [114, 101, 109, 117], [109, 117, 108, 119], [100, 105, 118, 119], [100, 105, 118, 117, 119], [114, 101, 109, 119], [114, 101, 109, 117, 119], [108, 114, 46, 119], [115, 99, 46, 119], [97, 109, 111, 115, 119, 97, 112, 46, 119], [97, 109, 111, 97, 100, 100, 46, 119], [97, 109, 111, 120, 111, 114, 46, 119], [97, 109, 111, 97, 110, 100, 46, 119], [97, 109, 111, 111, 114, 46, 119], [97, 109, 111, 109, 105, 110, 46, 119], [97, 109, 111, 109, 97, 120, 46, 119], [97, 109, 111, 109, 105, 110, 117, 46, 119], [97, 109, 111, 109, 97, 120, 117, 46, 119], [108, 114, 46, 100], [115, 99, 46, 100], [97, 109, 111, 115, 119, 97, 112, 46, 100], [97, 109, 111, 97, 100, 100, 46, 100], [97, 109, 111, 120, 111, 114, 46, 100], [97, 109, 111, 97, 110, 100, 46, 100], [97, 109, 111, 111, 114, 46, 100], [97, 109, 111, 109, 105, 110, 46, 100], [97, 109, 111, 109, 97, 120, 46, 100], [97, 109, 111, 109, 105, 110, 117, 46, 100], [97, 109, 111, 109, 97, 120, 117, 46, 100]]
def nameL (op : Int) : List UInt8 := if 1 ≤ op ∧ op ≤ 87 then nameTab.getD (op - 1).toNat [] else []
def nameCells : Array Value := (nameTab.map fun l => Value.string ⟨l.toArray⟩).toArray
theorem nameTab_len : nameTab.length = 87 := by decide +kernel
theorem wpList_table {P : Program} {ops : Array Oper} {Q : Exit → Act → World → Prop} {rest : List Oper} {o : Oper} {a : Act} {w : World} (hg : o.guard = none) (t : TypeId) (parts : Array (Nat × Operand)) (ho : o.op = .build t parts) (cells : Array Value)
    (hb : P.built t (parts.map fun (i, x) => (i, a.eval x)).toList = some cells) (h : wpList P ops Q rest (a.put o.dst (.agg cells)) w) : wpList P ops Q (o :: rest) a w := by
  refine wpList_builds rest [o] a _ ?_ h
  unfold runBuilds
  rw [hg, ho]
  simp only [hb]
  rfl
set_option maxHeartbeats 2000000 in
set_option maxRecDepth 100000 in
theorem name_any (op : Int) (w : World) (h1 : 1 ≤ op) (h2 : op ≤ 87) : Calls Tryd.prog 17 #[.int .i64 op] w fun e w' => e = .returned (.string ⟨(nameL op).toArray⟩) ∧ Below w.heap.size w w' := by
  go_enter Tryd.func17, Tryd.ntmps17
  go_upto_region 2 with (first
    | (refine wpList_table rfl 79 _ rfl nameCells (by kernel_rfl) ?_)
    | (refine wpList_store_row rfl 79 (.tmp 3) (.tmp 4) rfl w.heap.size nameCells rfl rfl 79 _ (Blk.new w _ _) (by kernel_rfl) (by kernel_rfl) (by kernel_rfl) ?_; (generalize hX : World.setRow _ _ _ = X)))
  have B : Blk X w.heap.size nameCells 79 := hX ▸ (Blk.new w _ 79).row nameCells
  have dX : Below w.heap.size w X := hX ▸ below_row ((Below.refl w.heap.size w).alloc (Nat.le_refl _) _) (Nat.le_refl _) nameCells
  clear hX
  have D := Lib.hid dX
  have c1 : X.cell? ⟨w.heap.size, op.toNat - 1, none⟩ = some (.string ⟨(nameL op).toArray⟩) := by
    have e := B.cell (op.toNat - 1)
    rw [e]
    unfold nameCells nameL
    rw [if_pos ⟨h1, h2⟩, List.getElem?_toArray, List.getElem?_map, show op.toNat - 1 = (op - 1).toNat by omega, List.getElem?_eq_getElem (show (op - 1).toNat < nameTab.length by rw [nameTab_len]; omega), List.getD_eq_getElem?_getD, List.getElem?_eq_getElem (show (op - 1).toNat < nameTab.length by rw [nameTab_len]; omega)]
    rfl
  clear B dX
  go_wp2_with fail
  go_ret
  exact ⟨rfl, D.out⟩
set_option maxHeartbeats 2000000 in
set_option maxRecDepth 100000 in
theorem rName_any (op : Int) (w : World) : Calls Tryd.prog 22 #[.int .i64 op] w fun e w' => e = .returned (.string ⟨(nameL op).toArray⟩) ∧ Below w.heap.size w w' := by
  go_enter Tryd.func22, Tryd.ntmps22
  go_upto_region 2 with (first
    | (refine wpList_table rfl 79 _ rfl nameCells (by kernel_rfl) ?_)
    | (refine wpList_store_row rfl 79 (.tmp 3) (.tmp 4) rfl w.heap.size nameCells rfl rfl 79 _ (Blk.new w _ _) (by kernel_rfl) (by kernel_rfl) (by kernel_rfl) ?_; (generalize hX : World.setRow _ _ _ = X)))
  have B : Blk X w.heap.size nameCells 79 := hX ▸ (Blk.new w _ 79).row nameCells
  have dX : Below w.heap.size w X := hX ▸ below_row ((Below.refl w.heap.size w).alloc (Nat.le_refl _) _) (Nat.le_refl _) nameCells
  clear hX
  have D := Lib.hid dX
  by_cases hr : 1 ≤ op ∧ op ≤ 87
  · obtain ⟨h1, h2⟩ := hr
    have c1 : X.cell? ⟨w.heap.size, op.toNat - 1, none⟩ = some (.string ⟨(nameL op).toArray⟩) := by
      have e := B.cell (op.toNat - 1)
      rw [e]
      unfold nameCells nameL
      rw [if_pos ⟨h1, h2⟩, List.getElem?_toArray, List.getElem?_map, show op.toNat - 1 = (op - 1).toNat by omega, List.getElem?_eq_getElem (show (op - 1).toNat < nameTab.length by rw [nameTab_len]; omega), List.getD_eq_getElem?_getD, List.getElem?_eq_getElem (show (op - 1).toNat < nameTab.length by rw [nameTab_len]; omega)]
      rfl
    clear B dX
    have h3 : ¬ op < 1 := by omega
    have h4 : ¬ 87 < op := by omega
    go_wp2_with fail
    go_ret
    exact ⟨rfl, D.out⟩
  · have e : nameL op = [] := by unfold nameL; rw [if_neg hr]
    clear B dX
    by_cases h3 : op < 1
    · go_wp2_with fail
      go_ret
      exact ⟨by first | rfl | (rw [e]; rfl), D.out⟩
    · have h4 : 87 < op := by omega
      go_wp2_with fail
      go_ret
      exact ⟨by first | rfl | (rw [e]; rfl), D.out⟩
end Go.Proofs.YtihcljaphajdfaaDoor.Hand
