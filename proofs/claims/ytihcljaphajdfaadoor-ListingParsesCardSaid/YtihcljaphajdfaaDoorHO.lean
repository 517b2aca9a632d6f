/- DERIVED. DERIVED. The reference's candidate for an operation. -/
import Derived.Test.YtihcljaphajdfaaDoorProg
import Derived.Test.YtihcljaphajdfaaDoorMBits
import Derived.Test.YtihcljaphajdfaaDoorMWalk
import Derived.Test.YtihcljaphajdfaaDoorMTab
import Derived.Test.YtihcljaphajdfaaDoorMInst
import Derived.Test.YtihcljaphajdfaaDoorMDec
import Derived.Test.YtihcljaphajdfaaDoorMDec2
import Derived.Test.YtihcljaphajdfaaDoorMQTail
import Derived.Test.YtihcljaphajdfaaDoorMArg
import Derived.Test.YtihcljaphajdfaaDoorMRow
import Derived.Test.YtihcljaphajdfaaDoorMOpen
import Derived.Test.YtihcljaphajdfaaDoorMPart
import Derived.Test.YtihcljaphajdfaaDoorMStore
import Derived.Test.YtihcljaphajdfaaDoorMReg
import Derived.Test.YtihcljaphajdfaaDoorHN
import Derived.Test.YtihcljaphajdfaaDoorPAllx3
import Derived.Test.YtihcljaphajdfaaDoorPAllx4
import Derived.Test.YtihcljaphajdfaaDoorPAllx6
import Derived.Test.YtihcljaphajdfaaDoorPAllx9
import Derived.Test.YtihcljaphajdfaaDoorPAllx11
import Derived.Below
import Derived.Deep.Draws
import Derived.Deep.AppendLies
import Derived.Maps.AppendAt
import Derived.OwnWalk
import Derived.Laws.BytesArg
import Derived.Laws.MakeOwn
import Derived.Laws.OwnMore
import Derived.Deep.OwnRows
import Derived.Tactics
import Derived.Lib.ConvBytes
import Derived.Laws.Slices
import Derived.WalkKit
import Derived.KernelRfl
import Derived.RowKit3
import Derived.Deep.LoopGhost
import Derived.Deep.QuietTactic
import Derived.BigQuiet
import Derived.WideLaws
import Derived.Deep.DeepCutAuto
import Derived.Deep.CutBlock
import Derived.Deep.RegionHeld3
import Derived.Laws.Rows
import Derived.Lib.AppendStr
import Derived.ArgAppend
import Derived.Laws.IdiomCopy
import Derived.OrdersHeld
import Derived.Laws.BitsLemmas
import Derived.Laws.Bits64
import Derived.RowKit
import Derived.Outline
import Derived.Handy
import Derived.Lib.Hide
import Derived.Deep.Light
import Derived.Laws.CopyOwn
import Derived.Lib.ItoaLen
import Derived.Deep.CutRange
import Derived.StillTail
import Derived.Shelf.RegionOpen
import Derived.Lib.QuietBelow
import Derived.Lib.AppendIntMem
import Derived.Laws.AppendOwnNone
import Derived.Shelf.Strings.Prefix
import Derived.Shelf.Strings.Split
import Derived.Shelf.Strings.Cut
import Derived.Shelf.Strings.Builder1
import Derived.Shelf.Strconv.AtoiAll
import Derived.Shelf.Strconv.Itoa3
import Derived.Ground.NamesProg
import Derived.Lib.AtoiTie
import Derived.Lib.AtoiErrMem
import Derived.Shelf.Vars
namespace Go.Proofs.YtihcljaphajdfaaDoor.Hand
open Go Go.RowKit Go.Proofs.YtihcljaphajdfaaDoor.M Go.Proofs.YtihcljaphajdfaaDoor.PAll Go.Proofs.YtihcljaphajdfaaDoorW.PrintWords
set_option linter.unusedVariables false
set_option linter.unusedSimpArgs false
theorem form_in (op : Int) (h1 : 1 ≤ op) (h2 : op ≤ 87) : 1 ≤ formOf op ∧ formOf op ≤ 12 := by
  have : ∀ n : Nat, n < 87 → 1 ≤ formOf ((n : Int) + 1) ∧ formOf ((n : Int) + 1) ≤ 12 := by decide +kernel
  have h := this (op - 1).toNat (by omega)
  rwa [show (((op - 1).toNat : Nat) : Int) + 1 = op by omega] at h
theorem form_twelve {f : Int} (h : 1 ≤ f ∧ f ≤ 12) : f = 1 ∨ f = 2 ∨ f = 3 ∨ f = 4 ∨ f = 5 ∨ f = 6 ∨ f = 7 ∨ f = 8 ∨ f = 9 ∨ f = 10 ∨ f = 11 ∨ f = 12 := by omega
/-- What the reference makes of a word: a register's first sign is left out. -/
def tailB (w : ByteArray) (at_ : Int) : ByteArray := if at_ < 4 ∧ 0 < w.size then w.extract 1 w.size else w
theorem tail_list (w : ByteArray) (at_ : Int) : (tailB w at_).data.toList = if at_ < 4 then w.data.toList.drop 1 else w.data.toList := by
  have hl := Lib.size_eq w
  unfold tailB
  by_cases h : at_ < 4
  · rw [if_pos h]
    by_cases h2 : 0 < w.size
    · rw [if_pos ⟨h, h2⟩, Lib.extract_to_end]
    · rw [if_neg (fun e => h2 e.2)]
      have : w.data.toList = [] := List.eq_nil_of_length_eq_zero (by omega)
      rw [this]; rfl
  · rw [if_neg (fun e => h e.1), if_neg h]
/-- The first parts, filled from the words as the reference does. -/
def rcandN (op : Int) (ws : List ByteArray) : Nat → Ins × Nat
  | 0 => (⟨op, 0, 0, 0, 0, false, false⟩, 1)
  | n + 1 => let (i, o) := rcandN op ws n; if h : hasB op n = true ∧ o < ws.length then (i.put n (valN (tailB ws[o] ((n : Int) + 1)).data.toList), o + 1) else (i, o)
def rcand (op : Int) (ws : List ByteArray) : Ins := (rcandN op ws 4).1
theorem rcandN_yes (op : Int) (ws : List ByteArray) (n : Nat) (h : hasB op n = true ∧ (rcandN op ws n).2 < ws.length) : rcandN op ws (n + 1) = ((rcandN op ws n).1.put n (valN (tailB (ws[(rcandN op ws n).2]'h.2) ((n : Int) + 1)).data.toList), (rcandN op ws n).2 + 1) := by
  show (if h : hasB op n = true ∧ (rcandN op ws n).2 < ws.length then _ else _) = _
  rw [dif_pos h]
theorem rcandN_no (op : Int) (ws : List ByteArray) (n : Nat) (h : ¬ (hasB op n = true ∧ (rcandN op ws n).2 < ws.length)) : rcandN op ws (n + 1) = rcandN op ws n := by
  show (if h : hasB op n = true ∧ (rcandN op ws n).2 < ws.length then _ else _) = _
  rw [dif_neg h]
theorem rcandN_le (op : Int) (ws : List ByteArray) : ∀ n, 1 ≤ (rcandN op ws n).2 ∧ (rcandN op ws n).2 ≤ n + 1
  | 0 => ⟨Nat.le_refl _, Nat.le_refl _⟩
  | n + 1 => by
    have := rcandN_le op ws n
    by_cases h : hasB op n = true ∧ (rcandN op ws n).2 < ws.length
    · rw [rcandN_yes op ws n h]; dsimp only; omega
    · rw [rcandN_no op ws n h]; omega
theorem value_any (s : ByteArray) (w : World) : Calls Tryd.prog 50 #[.string s] w fun e w' => (∃ b, e = .returned (.tuple #[.int .i64 (valN s.data.toList), .bool b])) ∧ Below w.heap.size w w' := by
  obtain ⟨b, hb⟩ := value_f s 60 (by decide) (by decide)
  exact (postbagref03_value.calls 60 s _ _ w hb).mono fun e w' ⟨h, d⟩ => ⟨⟨b, h⟩, d⟩
/-- Words in a row that is read. -/
def WordsAt (w : World) (A : Option Addr) (ws : List ByteArray) : Prop := Kd.C Kd.string w A ws.length ws
theorem WordsAt.below {w w' : World} {A : Option Addr} {ws : List ByteArray} (h : WordsAt w A ws) (d : Below w.heap.size w w') : WordsAt w' A ws := Kd.C_below h d
theorem WordsAt.cell {w : World} {A : Option Addr} {ws : List ByteArray} (h : WordsAt w A ws) (j : Nat) (hj : j < ws.length) : ∃ ad : Addr, A = some ad ∧ w.cell? (ad.add j) = some (.string ws[j]) := by
  obtain ⟨ad, c, e, hl, hk, hc⟩ := Kd.C_get h ByteArray.empty (j : Int) (by omega) (by omega)
  refine ⟨ad, e, ?_⟩
  have h2 := hc 0 (.string ws[j]) (by
    rw [show c = [.string (ws.getD (j : Int).toNat ByteArray.empty)] from hk, List.getD_eq_getElem?_getD, Int.toNat_natCast, List.getElem?_eq_getElem hj]; rfl)
  simpa [show (Kd.string).sz = 1 from rfl] using h2
end Go.Proofs.YtihcljaphajdfaaDoor.Hand
