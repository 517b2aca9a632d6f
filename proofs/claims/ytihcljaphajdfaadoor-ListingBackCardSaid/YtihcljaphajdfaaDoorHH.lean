/- DERIVED. DERIVED. What a line stands for. -/
import Derived.Test.YtihcljaphajdfaaDoorProg
import Derived.Test.YtihcljaphajdfaaDoorMBits
import Derived.Test.YtihcljaphajdfaaDoorMWalk
import Derived.Test.YtihcljaphajdfaaDoorMTab
import Derived.Test.YtihcljaphajdfaaDoorMInst
import Derived.Test.YtihcljaphajdfaaDoorMDec
import Derived.Test.YtihcljaphajdfaaDoorMDec2
import Derived.Test.YtihcljaphajdfaaDoorMQTail
import Derived.Test.YtihcljaphajdfaaDoorMArg
import Derived.Test.YtihcljaphajdfaaDoorMRow
import Derived.Test.YtihcljaphajdfaaDoorMOpen
import Derived.Test.YtihcljaphajdfaaDoorMPart
import Derived.Test.YtihcljaphajdfaaDoorMStore
import Derived.Test.YtihcljaphajdfaaDoorMReg
import Derived.Test.YtihcljaphajdfaaDoorMQTwo
import Derived.Test.YtihcljaphajdfaaDoorMQTail
import Derived.Test.YtihcljaphajdfaaDoorMStore
import Derived.Test.YtihcljaphajdfaaDoorHG
import Derived.Test.YtihcljaphajdfaaDoorPAllx3
import Derived.Test.YtihcljaphajdfaaDoorPAllx4
import Derived.Test.YtihcljaphajdfaaDoorPAllx6
import Derived.Test.YtihcljaphajdfaaDoorPAllx9
import Derived.Test.YtihcljaphajdfaaDoorPAllx11
import Derived.Below
import Derived.Deep.Draws
import Derived.Deep.AppendLies
import Derived.Maps.AppendAt
import Derived.OwnWalk
import Derived.Laws.BytesArg
import Derived.Laws.MakeOwn
import Derived.Laws.OwnMore
import Derived.Deep.OwnRows
import Derived.Tactics
import Derived.Lib.ConvBytes
import Derived.Laws.Slices
import Derived.WalkKit
import Derived.KernelRfl
import Derived.RowKit3
import Derived.Deep.LoopGhost
import Derived.Deep.QuietTactic
import Derived.BigQuiet
import Derived.WideLaws
import Derived.Deep.DeepCutAuto
import Derived.Deep.CutBlock
import Derived.Deep.RegionHeld3
import Derived.Laws.Rows
import Derived.Lib.AppendStr
import Derived.ArgAppend
import Derived.Laws.IdiomCopy
import Derived.OrdersHeld
import Derived.Laws.BitsLemmas
import Derived.Laws.Bits64
import Derived.RowKit
import Derived.Outline
import Derived.Handy
import Derived.Lib.Hide
import Derived.Deep.Light
import Derived.Laws.CopyOwn
import Derived.Lib.ItoaLen
import Derived.Deep.CutRange
import Derived.StillTail
import Derived.Shelf.RegionOpen
import Derived.Lib.QuietBelow
import Derived.Lib.AppendIntMem
import Derived.Laws.AppendOwnNone
import Derived.Shelf.Strings.Prefix
import Derived.Shelf.Strings.Split
import Derived.Shelf.Strings.Cut
import Derived.Shelf.Strings.Builder1
import Derived.Shelf.Strconv.AtoiAll
import Derived.Shelf.Strconv.Itoa3
import Derived.Ground.NamesProg
import Derived.Lib.AtoiTie
import Derived.Lib.AtoiErrMem
import Derived.Shelf.Vars
namespace Go.Proofs.YtihcljaphajdfaaDoor.Hand
open Go Go.RowKit Go.Proofs.YtihcljaphajdfaaDoor.M Go.Proofs.YtihcljaphajdfaaDoor.PAll Go.Proofs.YtihcljaphajdfaaDoorW.PrintWords
set_option linter.unusedVariables false
set_option linter.unusedSimpArgs false
attribute [local go_sem] Oper.semAt_some
theorem atoiAll_range {l : List UInt8} {v : Int} (h : Lib.atoiAll l = .ok v) : I64 v := by
  unfold Lib.atoiAll at h
  unfold I64
  split at h
  · cases h
  · dsimp only at h
    split at h
    · cases h
    · cases h
    · split at h
      · cases h
      · split at h
        · cases h
        · cases h
          split <;> omega
theorem atoiN_range (l : List UInt8) : I64 (atoiN l) := by
  unfold atoiN
  split
  · rename_i v h; exact atoiAll_range h
  · unfold I64; omega
theorem nextN_range (ws : List ByteArray) (o : Nat) : I64 (nextN ws o) := by
  unfold nextN wordN
  split
  · exact atoiN_range _
  · unfold I64; omega
/-- Does an operation's line have the part with this number? -/
def hasB (op : Int) (b : Nat) : Bool := match b with
  | 0 => hasRd (formOf op)
  | 1 => hasRs1 (formOf op)
  | 2 => hasRs2 (formOf op)
  | _ => hasImm (formOf op)
def Ins.put (i : Ins) (b : Nat) (v : Int) : Ins := match b with
  | 0 => { i with rd := v }
  | 1 => { i with rs1 := v }
  | 2 => { i with rs2 := v }
  | _ => { i with imm := v }
/-- The first `n` parts, filled from the words. -/
def candN (op : Int) (aq rl : Bool) (ws : List ByteArray) : Nat → Ins × Nat
  | 0 => (⟨op, 0, 0, 0, 0, aq, rl⟩, 1)
  | n + 1 => let (i, o) := candN op aq rl ws n; if hasB op n then (i.put n (nextN ws o), nextO ws o) else (i, o)
def cand (op : Int) (aq rl : Bool) (ws : List ByteArray) : Ins := (candN op aq rl ws 4).1
def combos : List (Bool × Bool) := [(false, false), (true, false), (false, true), (true, true)]
def hit (s : ByteArray) (i : Ins) : Option Ins := if s ≠ ⟨#[]⟩ ∧ (⟨(textL i).toArray⟩ : ByteArray) = s then some i else none
def tryOp (s : ByteArray) (ws : List ByteArray) (op : Int) (j : Nat) : Option Ins := (combos.drop j).findSome? fun c => hit s (cand op c.1 c.2 ws)
def tryK (s : ByteArray) (ws : List ByteArray) (k : Nat) : Option Ins :=
  if Lib.hasPrefix (ws.headD ⟨#[]⟩).data.toList (nameL ((k : Int) + 1)) then tryOp s ws ((k : Int) + 1) 0 else none
def parseFrom (s : ByteArray) (ws : List ByteArray) (k : Nat) : Option Ins := (List.range' k (87 - k)).findSome? (tryK s ws)
def wordsL (s : ByteArray) : List ByteArray := Lib.splitB ⟨#[32]⟩ 0 (Lib.countB s ⟨#[32]⟩) s
def parseR (s : ByteArray) : Option Ins := parseFrom s (wordsL s) 0
theorem parseFrom_step (s : ByteArray) (ws : List ByteArray) (k : Nat) (h : k < 87) : parseFrom s ws k = (tryK s ws k).or (parseFrom s ws (k + 1)) := by
  unfold parseFrom
  obtain ⟨n, hn⟩ : ∃ n, 87 - k = n + 1 := ⟨86 - k, by omega⟩
  rw [hn, List.range'_succ, List.findSome?_cons, show 87 - (k + 1) = n by omega]
  cases tryK s ws k <;> rfl
theorem parseFrom_end (s : ByteArray) (ws : List ByteArray) : parseFrom s ws 87 = none := rfl
theorem bits_hasB (op : Int) (b : Nat) (h1 : 1 ≤ op) (h2 : op ≤ 87) (hb : b < 4) : (Go.bits .and .i64 (partsOf op / 2 ^ b) 1 == 1) = hasB op b := by
  have : ∀ n : Nat, n < 87 → ∀ b : Nat, b < 4 → (Go.bits .and .i64 (partsOf ((n : Int) + 1) / 2 ^ b) 1 == 1) = hasB ((n : Int) + 1) b := by decide +kernel
  have h := this (op - 1).toNat (by omega) b hb
  rwa [show (((op - 1).toNat : Nat) : Int) + 1 = op by omega] at h
theorem put_op (i : Ins) (b : Nat) (v : Int) : (i.put b v).op = i.op := by unfold Ins.put; split <;> rfl
theorem candN_op (op : Int) (aq rl : Bool) (ws : List ByteArray) (n : Nat) : (candN op aq rl ws n).1.op = op := by
  induction n with
  | zero => rfl
  | succ n ih =>
    unfold candN
    dsimp only
    split
    · exact (put_op _ _ _).trans ih
    · exact ih
theorem put_Ok {i : Ins} (h : i.Ok) (b : Nat) {v : Int} (hv : I64 v) : (i.put b v).Ok := by
  unfold Ins.put
  split
  · exact ⟨h.op, hv, h.rs1, h.rs2, h.imm⟩
  · exact ⟨h.op, h.rd, hv, h.rs2, h.imm⟩
  · exact ⟨h.op, h.rd, h.rs1, hv, h.imm⟩
  · exact ⟨h.op, h.rd, h.rs1, h.rs2, hv⟩
theorem candN_Ok (op : Int) (aq rl : Bool) (ws : List ByteArray) (hop : I64 op) (n : Nat) : (candN op aq rl ws n).1.Ok := by
  induction n with
  | zero => exact ⟨hop, by unfold I64; dsimp only [candN]; omega, by unfold I64; dsimp only [candN]; omega, by unfold I64; dsimp only [candN]; omega, by unfold I64; dsimp only [candN]; omega⟩
  | succ n ih =>
    unfold candN
    dsimp only
    split
    · exact put_Ok ih n (nextN_range _ _)
    · exact ih
theorem words_len (s : ByteArray) : (wordsL s).length = Lib.countB s ⟨#[32]⟩ + 1 := Lib.splitB_all ⟨#[32]⟩ (by decide) 0 _ s rfl
theorem Split_any (s : ByteArray) (w : World) (hs : s.size ≤ 4000000000) (hL : LaidOk w) : Calls Tryd.prog 25 #[.string s, .string ⟨#[32]⟩] w fun e w' =>
    e = .returned (.slice (some ⟨w.heap.size, 0, none⟩) (wordsL s).length (wordsL s).length) ∧ Blk w' w.heap.size ((wordsL s).map Value.string).toArray 9 ∧ Below w.heap.size w w' ∧ w'.heap.size = w.heap.size + 1 := by
  obtain ⟨m, hm⟩ := hL.m
  refine (Any.strings_Split lays146 (by kernel_rfl) s ⟨#[32]⟩ m w (by omega) hm (by decide)).mono ?_
  rintro e w' ⟨rfl, rfl⟩
  rw [words_len]
  refine ⟨rfl, Blk.new w _ _, Below.alloc (Below.refl _ _) (Nat.le_refl _) _, by simp⟩
theorem splitB_size (sep : ByteArray) (save : Nat) : ∀ (k : Nat) (s x : ByteArray), x ∈ Lib.splitB sep save k s → x.size ≤ s.size
  | 0, s, x, h => by
    rw [Lib.splitB_zero, List.mem_singleton] at h
    rw [h]; exact Nat.le_refl _
  | k + 1, s, x, h => by
    unfold Lib.splitB at h
    split at h
    · rw [List.mem_singleton] at h; rw [h]; exact Nat.le_refl _
    · rw [List.mem_cons] at h
      rcases h with rfl | h
      · rw [ByteArray.size_extract]; omega
      · have h2 := splitB_size sep save k _ x h
        rw [ByteArray.size_extract] at h2; omega
theorem words_size (s x : ByteArray) (h : x ∈ wordsL s) : x.size ≤ s.size := splitB_size _ _ _ _ _ h
end Go.Proofs.YtihcljaphajdfaaDoor.Hand
