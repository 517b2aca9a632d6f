/- DERIVED. DERIVED. The program and the reference find the same instruction in a line: plain lists. -/
import Derived.Test.YtihcljaphajdfaaGreatDoorProg
import Derived.Test.YtihcljaphajdfaaGreatDoorMBits
import Derived.Test.YtihcljaphajdfaaGreatDoorMWalk
import Derived.Test.YtihcljaphajdfaaGreatDoorMTab
import Derived.Test.YtihcljaphajdfaaGreatDoorMInst
import Derived.Test.YtihcljaphajdfaaGreatDoorMDec
import Derived.Test.YtihcljaphajdfaaGreatDoorMDec2
import Derived.Test.YtihcljaphajdfaaGreatDoorMQTail
import Derived.Test.YtihcljaphajdfaaGreatDoorMArg
import Derived.Test.YtihcljaphajdfaaGreatDoorMRow
import Derived.Test.YtihcljaphajdfaaGreatDoorMOpen
import Derived.Test.YtihcljaphajdfaaGreatDoorMPart
import Derived.Test.YtihcljaphajdfaaGreatDoorMStore
import Derived.Test.YtihcljaphajdfaaGreatDoorMReg
import Derived.Test.YtihcljaphajdfaaGreatDoorHP
import Derived.Test.YtihcljaphajdfaaGreatDoorPAllx2
import Derived.Test.YtihcljaphajdfaaGreatDoorPAllx4
import Derived.Test.YtihcljaphajdfaaGreatDoorPAllx8
import Derived.Test.YtihcljaphajdfaaGreatDoorPAllx9
import Derived.Test.YtihcljaphajdfaaGreatDoorPAllx10
import Derived.Below
import Derived.Deep.Draws
import Derived.Deep.AppendLies
import Derived.Maps.AppendAt
import Derived.OwnWalk
import Derived.Laws.BytesArg
import Derived.Laws.MakeOwn
import Derived.Laws.OwnMore
import Derived.Deep.OwnRows
import Derived.Tactics
import Derived.Lib.ConvBytes
import Derived.Laws.Slices
import Derived.WalkKit
import Derived.KernelRfl
import Derived.RowKit3
import Derived.Deep.LoopGhost
import Derived.Deep.QuietTactic
import Derived.BigQuiet
import Derived.WideLaws
import Derived.Deep.DeepCutAuto
import Derived.Deep.CutBlock
import Derived.Deep.RegionHeld3
import Derived.Laws.Rows
import Derived.Lib.AppendStr
import Derived.ArgAppend
import Derived.Laws.IdiomCopy
import Derived.OrdersHeld
import Derived.Laws.BitsLemmas
import Derived.Laws.Bits64
import Derived.RowKit
import Derived.Outline
import Derived.Handy
import Derived.Lib.Hide
import Derived.Deep.Light
import Derived.Laws.CopyOwn
import Derived.Lib.ItoaLen
import Derived.Deep.CutRange
import Derived.StillTail
import Derived.Shelf.RegionOpen
import Derived.Lib.QuietBelow
import Derived.Lib.AppendIntMem
import Derived.Laws.AppendOwnNone
import Derived.Shelf.Strings.Prefix
import Derived.Shelf.Strings.Split
import Derived.Shelf.Strings.Cut
import Derived.Shelf.Strings.Builder1
import Derived.Shelf.Strconv.AtoiAll
import Derived.Shelf.Strconv.Itoa3
import Derived.Ground.NamesProg
import Derived.Lib.AtoiTie
import Derived.Lib.AtoiErrMem
import Derived.Shelf.Vars
namespace Go.Proofs.YtihcljaphajdfaaGreatDoor.Hand
open Go Go.RowKit Go.Proofs.YtihcljaphajdfaaGreatDoor.M Go.Proofs.YtihcljaphajdfaaGreatDoor.PAll Go.Proofs.YtihcljaphajdfaaGreatDoorW.PrintWords
set_option linter.unusedVariables false
set_option linter.unusedSimpArgs false
/-- A line's words. -/
def wsOf (s : ByteArray) : List ByteArray := (spl s.data.toList).map fun l => ⟨l.toArray⟩
theorem ws_unique {ws : List ByteArray} {s : ByteArray} (h : ws.map (·.data.toList) = spl s.data.toList) : ws = wsOf s := by
  unfold wsOf
  rw [← h, List.map_map]
  symm
  conv => rhs; rw [← List.map_id ws]
  exact List.map_congr_left fun x _ => rfl
theorem wsOf_map (s : ByteArray) : (wsOf s).map (·.data.toList) = spl s.data.toList := by
  unfold wsOf
  rw [List.map_map]
  conv => rhs; rw [← List.map_id (spl s.data.toList)]
  exact List.map_congr_left fun x _ => rfl
theorem wsOf_len (s : ByteArray) : 0 < (wsOf s).length := by
  unfold wsOf
  rw [List.length_map]
  exact List.length_pos_iff.2 (spl_ne _)
def nextR (L : List (List UInt8)) (o n : Nat) : Int := valN (if n < 3 then (L.getD o []).drop 1 else L.getD o [])
theorem rcandN_list (op : Int) (ws : List ByteArray) (n : Nat) : rcandN op ws (n + 1) = if hasB op n = true ∧ (rcandN op ws n).2 < (ws.map (·.data.toList)).length then ((rcandN op ws n).1.put n (nextR (ws.map (·.data.toList)) (rcandN op ws n).2 n), (rcandN op ws n).2 + 1) else rcandN op ws n := by
  by_cases h : hasB op n = true ∧ (rcandN op ws n).2 < ws.length
  · rw [rcandN_yes op ws n h, if_pos (by rw [List.length_map]; exact h)]
    congr 2
    unfold nextR
    rw [tail_list]
    have e : (ws.map (·.data.toList)).getD (rcandN op ws n).2 [] = (ws[(rcandN op ws n).2]'h.2).data.toList := by
      rw [List.getD_eq_getElem?_getD, List.getElem?_map, List.getElem?_eq_getElem h.2]; rfl
    rw [e]
    by_cases h3 : n < 3
    · rw [if_pos h3, if_pos (by omega)]
    · rw [if_neg h3, if_neg (by omega)]
  · rw [rcandN_no op ws n h, if_neg (by rw [List.length_map]; exact h)]
def rcandI (op : Int) (ws : List ByteArray) (aq rl : Bool) : Ins := { rcand op ws with aq := aq, rl := rl }
set_option maxHeartbeats 2000000 in
theorem rcand_good {i : Ins} (h : i.good = true) {ws : List ByteArray} (hw : ws.map (·.data.toList) = headL i.op i.aq i.rl :: fieldsL i) : rcandI i.op ws i.aq i.rl = i := by
  obtain ⟨h1, h2, h3, h4⟩ := good_small h
  obtain ⟨n1, n2, n3, n4⟩ := good_no h
  have z1 := valN_itoa i.rd (by omega) (by omega)
  have z2 := valN_itoa i.rs1 (by omega) (by omega)
  have z3 := valN_itoa i.rs2 (by omega) (by omega)
  have z4 := valN_itoa i.imm (by omega) (by omega)
  unfold fieldsL at hw
  unfold rcandI rcand
  rw [show (4 : Nat) = 3 + 1 from rfl, rcandN_list, rcandN_list, rcandN_list, rcandN_list]
  simp only [hw, hasB]
  unfold rcandN
  clear hw h h1 h2 h3 h4
  obtain ⟨op, rd, rs1, rs2, imm, aq, rl⟩ := i
  dsimp only at *
  cases e1 : hasRd (formOf op) <;> cases e2 : hasRs1 (formOf op) <;> cases e3 : hasRs2 (formOf op) <;> cases e4 : hasImm (formOf op) <;> simp only [e1, e2, e3, e4, forall_const, Bool.false_eq_true, false_implies, Bool.true_eq_false] at n1 n2 n3 n4 <;> simp [Ins.put, nextR, *]
def rtry (s : ByteArray) (ws : List ByteArray) (op : Int) (j : Nat) : Option Ins := (combos.drop j).findSome? fun c => if headL op c.1 c.2 = (ws.headD ⟨#[]⟩).data.toList then hit s (rcandI op ws c.1 c.2) else none
def rfrom (s : ByteArray) (ws : List ByteArray) (k : Nat) : Option Ins := (List.range' k (87 - k)).findSome? fun (n : Nat) => rtry s ws ((n : Int) + 1) 0
def rparse (s : ByteArray) : Option Ins := if s.size > 100 then none else rfrom s (wsOf s) 0
theorem rfrom_step (s : ByteArray) (ws : List ByteArray) (k : Nat) (h : k < 87) : rfrom s ws k = (rtry s ws ((k : Int) + 1) 0).or (rfrom s ws (k + 1)) := by
  unfold rfrom
  obtain ⟨n, hn⟩ : ∃ n, 87 - k = n + 1 := ⟨86 - k, by omega⟩
  rw [hn, List.range'_succ, List.findSome?_cons, show 87 - (k + 1) = n by omega]
  cases rtry s ws ((k : Int) + 1) 0 <;> rfl
theorem rfrom_end (s : ByteArray) (ws : List ByteArray) : rfrom s ws 87 = none := rfl
theorem rtry_step (s : ByteArray) (ws : List ByteArray) (op : Int) (j : Nat) {aq rl : Bool} (h : combos[j]? = some (aq, rl)) : rtry s ws op j = (if headL op aq rl = (ws.headD ⟨#[]⟩).data.toList then hit s (rcandI op ws aq rl) else none).or (rtry s ws op (j + 1)) := by
  unfold rtry
  have hj : j < combos.length := (List.getElem?_eq_some_iff.1 h).1
  have he : combos[j] = (aq, rl) := (List.getElem?_eq_some_iff.1 h).2
  rw [List.drop_eq_getElem_cons hj, List.findSome?_cons, he]
  dsimp only
  cases (if headL op aq rl = (ws.headD ⟨#[]⟩).data.toList then hit s (rcandI op ws aq rl) else none) <;> rfl
theorem rtry_end (s : ByteArray) (ws : List ByteArray) (op : Int) : rtry s ws op 4 = none := rfl
theorem rparse_spec {s : ByteArray} {j : Ins} (h : rparse s = some j) : textL j = s.data.toList ∧ j.good = true := by
  unfold rparse at h
  split at h
  · cases h
  · unfold rfrom at h
    obtain ⟨k, _, hk⟩ := List.exists_of_findSome?_eq_some h
    unfold rtry at hk
    obtain ⟨c, _, hc⟩ := List.exists_of_findSome?_eq_some hk
    split at hc
    · obtain ⟨rfl, h2⟩ := hit_spec hc
      exact h2
    · cases hc
theorem nd_le2 (u : Nat) (h : u < 100) : Lib.nDigits u ≤ 2 := by
  unfold Lib.nDigits; split; · omega
  unfold Lib.nDigits; split; · omega
  omega
theorem itoa_short (n : Int) (h1 : -2147483648 ≤ n) (h2 : n ≤ 2147483648) : (Lib.itoa n).length ≤ 11 := by
  have := nd_le n.natAbs (by omega)
  have h3 := Lib.decDigits_length n.natAbs
  unfold Lib.itoa
  split
  · rw [List.length_cons]; omega
  · rw [show n.toNat = n.natAbs by omega]; omega
/-- A good line is short. -/
theorem textL_short {i : Ins} (h : i.good = true) : (textL i).length ≤ 80 := by
  obtain ⟨h1, h2, h3, h4⟩ := good_small h
  have l1 := itoa_short i.rd (by omega) (by omega)
  have l2 := itoa_short i.rs1 (by omega) (by omega)
  have l3 := itoa_short i.rs2 (by omega) (by omega)
  have l4 := itoa_short i.imm (by omega) (by omega)
  have g1 := name_len i.op
  have g2 := suf_len i.aq i.rl
  have g3 := fld_len (hasRd (formOf i.op)) [32, 120] i.rd
  have g4 := fld_len (hasRs1 (formOf i.op)) [32, 120] i.rs1
  have g5 := fld_len (hasRs2 (formOf i.op)) [32, 120] i.rs2
  have g6 := fld_len (hasImm (formOf i.op)) [32] i.imm
  simp only [List.length_cons, List.length_nil] at g3 g4 g5 g6
  unfold textL
  rw [if_pos h]
  simp only [List.length_append]; omega
theorem rparse_good {s : ByteArray} {i : Ins} (h : i.good = true) (hs : s.data.toList = textL i) : rparse s = some i := by
  obtain ⟨a1, a2⟩ := good_range i h
  have hw : (wsOf s).map (·.data.toList) = headL i.op i.aq i.rl :: fieldsL i := by rw [wsOf_map, hs, spl_textL i h]
  have hh : headL i.op i.aq i.rl = ((wsOf s).headD ⟨#[]⟩).data.toList := by
    cases e : wsOf s with
    | nil => rw [e] at hw; cases hw
    | cons x t => rw [e, List.map_cons, List.cons.injEq] at hw; exact hw.1.symm
  have only : ∀ (k : Int) (c : Bool × Bool) (u : Ins), (if headL k c.1 c.2 = ((wsOf s).headD ⟨#[]⟩).data.toList then hit s (rcandI k (wsOf s) c.1 c.2) else none) = some u → u = i := by
    intro k c u hu
    split at hu
    · obtain ⟨rfl, h2, h3⟩ := hit_spec hu
      exact textL_inj h3 h (h2.trans hs)
    · cases hu
  have hT : rtry s (wsOf s) i.op 0 = some i := by
    unfold rtry
    refine findSome_only ?_ (a := (i.aq, i.rl)) ?_ ?_
    · intro c _ u hu
      exact only _ c u hu
    · cases i.aq <;> cases i.rl <;> decide
    · show (if headL i.op i.aq i.rl = ((wsOf s).headD ⟨#[]⟩).data.toList then hit s (rcandI i.op (wsOf s) i.aq i.rl) else none) = some i
      rw [if_pos hh, rcand_good h hw]
      exact hit_good h hs
  have hsz : ¬ s.size > 100 := by
    have := textL_short h
    rw [← hs] at this
    rw [Lib.size_eq]; omega
  unfold rparse
  rw [if_neg hsz]
  unfold rfrom
  refine findSome_only ?_ (a := (i.op - 1).toNat) ?_ ?_
  · intro k _ u hu
    unfold rtry at hu
    obtain ⟨c, _, hc⟩ := List.exists_of_findSome?_eq_some hu
    exact only _ c u hc
  · rw [List.mem_range']
    exact ⟨(i.op - 1).toNat, by omega, by omega⟩
  · rw [show (((i.op - 1).toNat : Nat) : Int) + 1 = i.op by omega]
    exact hT
/-- The program and the reference find the same instruction. -/
theorem rparse_eq (s : ByteArray) : rparse s = parseR s := by
  cases h : parseR s with
  | some i =>
    obtain ⟨h1, h2⟩ := parseR_spec h
    exact rparse_good h2 h1.symm
  | none =>
    cases h2 : rparse s with
    | none => rfl
    | some i =>
      obtain ⟨h3, h4⟩ := rparse_spec h2
      rw [parseR_good h4 h3.symm] at h
      cases h
end Go.Proofs.YtihcljaphajdfaaGreatDoor.Hand
