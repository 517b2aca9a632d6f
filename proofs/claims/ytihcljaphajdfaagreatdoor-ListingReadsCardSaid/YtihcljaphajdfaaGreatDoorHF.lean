/- DERIVED. DERIVED. The reference's numerals and lines: the walk of its Text. -/
import Derived.Test.YtihcljaphajdfaaGreatDoorProg
import Derived.Test.YtihcljaphajdfaaGreatDoorMBits
import Derived.Test.YtihcljaphajdfaaGreatDoorMWalk
import Derived.Test.YtihcljaphajdfaaGreatDoorMTab
import Derived.Test.YtihcljaphajdfaaGreatDoorMInst
import Derived.Test.YtihcljaphajdfaaGreatDoorMDec
import Derived.Test.YtihcljaphajdfaaGreatDoorMDec2
import Derived.Test.YtihcljaphajdfaaGreatDoorMQTail
import Derived.Test.YtihcljaphajdfaaGreatDoorMArg
import Derived.Test.YtihcljaphajdfaaGreatDoorMRow
import Derived.Test.YtihcljaphajdfaaGreatDoorMOpen
import Derived.Test.YtihcljaphajdfaaGreatDoorMPart
import Derived.Test.YtihcljaphajdfaaGreatDoorMStore
import Derived.Test.YtihcljaphajdfaaGreatDoorMReg
import Derived.Test.YtihcljaphajdfaaGreatDoorMQTwo
import Derived.Test.YtihcljaphajdfaaGreatDoorMQTail
import Derived.Test.YtihcljaphajdfaaGreatDoorMQOne
import Derived.Test.YtihcljaphajdfaaGreatDoorMQPick
import Derived.Test.YtihcljaphajdfaaGreatDoorMReg
import Derived.Test.YtihcljaphajdfaaGreatDoorMStore
import Derived.Test.YtihcljaphajdfaaGreatDoorHE
import Derived.Test.YtihcljaphajdfaaGreatDoorPAllx2
import Derived.Test.YtihcljaphajdfaaGreatDoorPAllx4
import Derived.Test.YtihcljaphajdfaaGreatDoorPAllx8
import Derived.Test.YtihcljaphajdfaaGreatDoorPAllx9
import Derived.Test.YtihcljaphajdfaaGreatDoorPAllx10
import Derived.Below
import Derived.Deep.Draws
import Derived.Deep.AppendLies
import Derived.Maps.AppendAt
import Derived.OwnWalk
import Derived.Laws.BytesArg
import Derived.Laws.MakeOwn
import Derived.Laws.OwnMore
import Derived.Deep.OwnRows
import Derived.Tactics
import Derived.Lib.ConvBytes
import Derived.Laws.Slices
import Derived.WalkKit
import Derived.KernelRfl
import Derived.RowKit3
import Derived.Deep.LoopGhost
import Derived.Deep.QuietTactic
import Derived.BigQuiet
import Derived.WideLaws
import Derived.Deep.DeepCutAuto
import Derived.Deep.CutBlock
import Derived.Deep.RegionHeld3
import Derived.Laws.Rows
import Derived.Lib.AppendStr
import Derived.ArgAppend
import Derived.Laws.IdiomCopy
import Derived.OrdersHeld
import Derived.Laws.BitsLemmas
import Derived.Laws.Bits64
import Derived.RowKit
import Derived.Outline
import Derived.Handy
import Derived.Lib.Hide
import Derived.Deep.Light
import Derived.Laws.CopyOwn
import Derived.Lib.ItoaLen
import Derived.Deep.CutRange
import Derived.StillTail
import Derived.Shelf.RegionOpen
import Derived.Lib.QuietBelow
import Derived.Lib.AppendIntMem
import Derived.Laws.AppendOwnNone
import Derived.Shelf.Strings.Prefix
import Derived.Shelf.Strings.Split
import Derived.Shelf.Strings.Cut
import Derived.Shelf.Strings.Builder1
import Derived.Shelf.Strconv.AtoiAll
import Derived.Shelf.Strconv.Itoa3
import Derived.Ground.NamesProg
import Derived.Lib.AtoiTie
import Derived.Lib.AtoiErrMem
import Derived.Shelf.Vars
namespace Go.Proofs.YtihcljaphajdfaaGreatDoor.Hand
open Go Go.RowKit Go.Proofs.YtihcljaphajdfaaGreatDoor.M Go.Proofs.YtihcljaphajdfaaGreatDoor.PAll Go.Proofs.YtihcljaphajdfaaGreatDoorW.PrintWords
set_option linter.unusedVariables false
set_option linter.unusedSimpArgs false
attribute [local go_sem] Oper.semAt_some
def digB (m : Nat) : ByteArray := strOfNums [48 + ((m % 10 : Nat) : Int)]
theorem digB_eq (m : Nat) : digB m = ⟨[UInt8.ofNat (48 + m % 10)].toArray⟩ := by
  unfold digB strOfNums
  simp only [List.map_cons, List.map_nil]
  rw [show ((48 : Int) + ((m % 10 : Nat) : Int)).toNat = 48 + m % 10 by omega]
theorem dig_step (k : Nat) (n : Int) (x3 : ByteArray) (hn : I64 n) : postbagref03_digits.l0 (k + 1) n x3 = (if (digB n.natAbs).size + x3.size ≤ 9223372036854775807 then (if Int.tdiv n 10 = 0 then some (digB n.natAbs ++ x3) else postbagref03_digits.l0 k (Int.tdiv n 10) (digB n.natAbs ++ x3)) else none) := by
  unfold I64 at hn
  rcases Int.le_total 0 n with h0 | h0
  · obtain ⟨m, rfl⟩ : ∃ m : Nat, n = m := ⟨n.toNat, by omega⟩
    have e1 : Int.tmod (m : Int) 10 = ((m % 10 : Nat) : Int) := rfl
    have e2 : Int.tdiv (m : Int) 10 = ((m / 10 : Nat) : Int) := rfl
    have e3 : wrap64 ((m / 10 : Nat) : Int) = ((m / 10 : Nat) : Int) := by unfold wrap64; omega
    have e4 : wrap64 (48 + ((m % 10 : Nat) : Int)) % 256 = 48 + ((m % 10 : Nat) : Int) := by unfold wrap64; omega
    conv => lhs; unfold postbagref03_digits.l0
    rw [e1, e2, e3, e4, if_neg (by omega), Option.bind_some]
    rfl
  · obtain ⟨m, rfl⟩ : ∃ m : Nat, n = -(m : Int) := ⟨n.natAbs, by omega⟩
    have e1 : Int.tmod (-(m : Int)) 10 = -((m % 10 : Nat) : Int) := by rw [Int.neg_tmod]; rfl
    have e2 : Int.tdiv (-(m : Int)) 10 = -((m / 10 : Nat) : Int) := by rw [Int.neg_tdiv]; rfl
    have e3 : wrap64 (-((m / 10 : Nat) : Int)) = -((m / 10 : Nat) : Int) := by unfold wrap64; omega
    have e5 : wrap64 (- -((m % 10 : Nat) : Int)) = ((m % 10 : Nat) : Int) := by unfold wrap64; omega
    have e4 : wrap64 (48 + ((m % 10 : Nat) : Int)) % 256 = 48 + ((m % 10 : Nat) : Int) := by unfold wrap64; omega
    have hab : (-(m : Int)).natAbs = m := by omega
    conv => lhs; unfold postbagref03_digits.l0
    rw [e1, e2, e3, hab]
    by_cases hz : -((m % 10 : Nat) : Int) < 0
    · rw [if_pos hz, e5, e4, Option.bind_some]; rfl
    · have hz0 : m % 10 = 0 := by omega
      have e6 : wrap64 (48 + -((m % 10 : Nat) : Int)) % 256 = 48 + ((m % 10 : Nat) : Int) := by unfold wrap64; omega
      rw [if_neg hz, e6, Option.bind_some]; rfl
theorem dig_all : ∀ (k : Nat) (n : Int) (acc : List UInt8), I64 n → Lib.nDigits n.natAbs ≤ k → acc.length ≤ 1000 * (1000 - k) → k ≤ 100 → postbagref03_digits.l0 k n ⟨acc.toArray⟩ = some ⟨(Lib.decDigits n.natAbs ++ acc).toArray⟩
  | 0, n, acc, hn, h, _, _ => by
    have := Lib.nDigits_pos n.natAbs
    omega
  | k + 1, n, acc, hn, h, ha, hk => by
    rw [dig_step k n _ hn, digB_eq]
    have hsz : (⟨[UInt8.ofNat (48 + n.natAbs % 10)].toArray⟩ : ByteArray).size + (⟨acc.toArray⟩ : ByteArray).size ≤ 9223372036854775807 := by
      have h1 : (⟨[UInt8.ofNat (48 + n.natAbs % 10)].toArray⟩ : ByteArray).size = 1 := rfl
      have h2 : (⟨acc.toArray⟩ : ByteArray).size = acc.length := by show acc.toArray.size = _; simp
      omega
    rw [if_pos hsz, str_cat]
    have hda : (Int.tdiv n 10).natAbs = n.natAbs / 10 := by
      rw [Int.natAbs_tdiv]; rfl
    have hdd : Lib.decDigits n.natAbs = if n.natAbs < 10 then [UInt8.ofNat (48 + n.natAbs)] else Lib.decDigits (n.natAbs / 10) ++ [UInt8.ofNat (48 + n.natAbs % 10)] := by
      conv => lhs; unfold Lib.decDigits
      split <;> rename_i h1 <;> simp [h1]
    by_cases hz : Int.tdiv n 10 = 0
    · have hlt : n.natAbs < 10 := by rw [hz] at hda; simp at hda; omega
      rw [if_pos hz, hdd, if_pos hlt, Nat.mod_eq_of_lt hlt]
    · have hge : ¬ n.natAbs < 10 := fun h2 => hz (by
        have : (Int.tdiv n 10).natAbs = 0 := by rw [hda]; omega
        omega)
      have hnd : Lib.nDigits n.natAbs = Lib.nDigits (n.natAbs / 10) + 1 := by
        conv => lhs; unfold Lib.nDigits
        rw [dif_neg hge]
      have hi : I64 (Int.tdiv n 10) := by
        unfold I64 at hn ⊢
        have := hda
        omega
      rw [if_neg hz, dig_all k (Int.tdiv n 10) _ hi (by rw [hda]; omega) (by simp only [List.length_append, List.length_singleton]; omega) (by omega), hda, hdd, if_neg hge, List.append_assoc]
theorem Number_any (n : Int) (hn : I64 n) (w : World) : Calls Tryz.prog 37 #[.int .i64 n] w fun e w' => e = .returned (.string ⟨(Lib.itoa n).toArray⟩) ∧ Below w.heap.size w w' := by
  refine postbagref03_Number.calls 30 n _ w ?_
  have hu : n.natAbs < 18446744073709551616 := by unfold I64 at hn; omega
  have hd : postbagref03_digits.f 30 n = some ⟨(Lib.decDigits n.natAbs).toArray⟩ := by
    unfold postbagref03_digits.f
    have := dig_all 30 n [] hn (by have := Lib.nDigits_le20 n.natAbs hu; omega) (by decide) (by decide)
    rw [List.append_nil] at this
    exact this
  unfold postbagref03_Number.f Lib.itoa
  by_cases h0 : n < 0
  · rw [if_pos h0, if_pos h0, hd, Option.bind_some]
    have hl := Lib.nDigits_le20 n.natAbs hu
    have h2 : (⟨(Lib.decDigits n.natAbs).toArray⟩ : ByteArray).size = (Lib.decDigits n.natAbs).length := by show (Lib.decDigits n.natAbs).toArray.size = _; simp
    rw [if_pos (by rw [h2, Lib.decDigits_length]; omega)]
    have := str_cat [45] (Lib.decDigits n.natAbs)
    rw [show (⟨#[45]⟩ : ByteArray) = ⟨[45].toArray⟩ from rfl, this]; rfl
  · rw [if_neg h0, if_neg h0, hd, Option.bind_some, show n.toNat = n.natAbs by omega]
theorem rGood_any (i : Ins) (h : i.Ok) (w : World) : Calls Tryz.prog 34 #[.agg i.cells] w fun e w' => e = .returned (.bool i.good) ∧ Below w.heap.size w w' :=
  postbagref02_Good.calls i.op i.rd i.rs1 i.rs2 i.imm i.aq i.rl _ w (by unfold postbagref02_Good.f; rw [if_pos h.imm]; rfl)
theorem Row_any (op : Int) (w : World) : Calls Tryz.prog 36 #[.int .i64 op] w fun e w' => e = .returned (.agg #[.int .i64 (formOf op), .int .i64 (codeOf op), .int .i64 (f3Of op), .int .i64 (f7Of op)]) ∧ Below w.heap.size w w' :=
  postbagref02_Row.calls op _ _ _ _ w rfl
set_option maxRecDepth 100000 in
set_option maxHeartbeats 8000000 in
theorem rText_any (i : Ins) (hi : i.Ok) (w : World) : Calls Tryz.prog 16 #[.agg i.cells] w fun e w' => e = .returned (.string ⟨(textL i).toArray⟩) ∧ Below w.heap.size w w' := by
  have HG := Lib.hid fun W => rGood_any i hi W
  unfold Ins.cells at *
  cases hg : i.good
  · rw [hg] at HG
    have ht : textL i = [] := by unfold textL; rw [hg]; rfl
    rw [ht]
    go_enter Tryz.func16, Tryz.ntmps16
    go_upto_region 1 with fail
    generalize hX : World.alloc w _ = X
    obtain ⟨B, dX, sX⟩ := arg_box (cs := i.cells) hX
    clear hX
    have HB := Lib.hid B
    have D := Lib.hid dX
    clear B dX
    go_wp2_with (first
      | (refine wpList_load_row rfl 33 _ rfl w.heap.size rfl 33 _ _ _ HB.out Tryz.underlying33 rfl ins_info ?_)
      | (go_at_call 34; refine (HG.out _).mono ?_; clear HG; rintro e W ⟨rfl, dW⟩; replace HB := Lib.hid (HB.out.below dW); replace D := Lib.hid (D.out.trans (dW.mono D.out.size)); clear dW))
    go_ret
    exact ⟨rfl, D.out⟩
  · obtain ⟨h1, h2⟩ := good_range i hg
    rw [hg] at HG
    have HN := Lib.hid fun W => rName_any i.op W
    have HR := Lib.hid fun W => Row_any i.op W
    have N1 := Lib.hid fun W => Number_any i.rd hi.rd W
    have N2 := Lib.hid fun W => Number_any i.rs1 hi.rs1 W
    have N3 := Lib.hid fun W => Number_any i.rs2 hi.rs2 W
    have N4 := Lib.hid fun W => Number_any i.imm hi.imm W
    have hnl := name_len i.op
    have hsl := suf_len i.aq i.rl
    have k1 := Lib.itoa_length_le i.rd (by have := hi.rd; unfold I64 at this; omega) (by have := hi.rd; unfold I64 at this; omega)
    have k2 := Lib.itoa_length_le i.rs1 (by have := hi.rs1; unfold I64 at this; omega) (by have := hi.rs1; unfold I64 at this; omega)
    have k3 := Lib.itoa_length_le i.rs2 (by have := hi.rs2; unfold I64 at this; omega) (by have := hi.rs2; unfold I64 at this; omega)
    have k4 := Lib.itoa_length_le i.imm (by have := hi.imm; unfold I64 at this; omega) (by have := hi.imm; unfold I64 at this; omega)
    have hl0 : (nameL i.op ++ sufL i.aq i.rl).length ≤ 14 := by rw [List.length_append]; omega
    have htx : textL i = ((((nameL i.op ++ sufL i.aq i.rl) ++ fldL (hasRd (formOf i.op)) [32, 120] i.rd) ++ fldL (hasRs1 (formOf i.op)) [32, 120] i.rs1) ++ fldL (hasRs2 (formOf i.op)) [32, 120] i.rs2) ++ fldL (hasImm (formOf i.op)) [32] i.imm := by unfold textL; rw [if_pos hg]
    have hf0 : formOf i.op ≠ 0 := by
      have h : i.good = true := hg
      unfold Ins.good goodOf at h
      rw [Bool.and_eq_true, decide_eq_true_eq] at h
      omega
    have hsf := str_cat (nameL i.op) (sufL i.aq i.rl)
    have hcs := form_cases i.op
    go_enter Tryz.func16, Tryz.ntmps16
    go_upto_region 1 with fail
    generalize hX : World.alloc w _ = X
    obtain ⟨B, dX, sX⟩ := arg_box (cs := i.cells) hX
    clear hX
    have HB := Lib.hid B
    have D := Lib.hid dX
    clear B dX
    go_upto_region 3 with (first
      | (refine wpList_load_row rfl 33 _ rfl w.heap.size rfl 33 _ _ _ HB.out Tryz.underlying33 rfl ins_info ?_)
      | (go_at_call 34; refine (HG.out _).mono ?_; clear HG; rintro e W ⟨rfl, dW⟩; replace HB := Lib.hid (HB.out.below dW); replace D := Lib.hid (D.out.trans (dW.mono D.out.size)); clear dW))
    have c0 : W.cell? ⟨w.heap.size, 0, none⟩ = some (.int .i64 i.op) := HB.out.cell 0
    go_upto_region 4 with (go_at_call 35; refine (HN.out _).mono ?_; clear HN; rintro e W2 ⟨rfl, dW⟩; replace HB := Lib.hid (HB.out.below dW); replace D := Lib.hid (D.out.trans (dW.mono D.out.size)); clear dW c0)
    obtain ⟨a5, h5⟩ : ∃ a, i.aq = a := ⟨_, rfl⟩
    obtain ⟨a6, h6⟩ : ∃ a, i.rl = a := ⟨_, rfl⟩
    have c5 : W2.cell? ⟨w.heap.size, 5, none⟩ = some (.bool a5) := h5 ▸ HB.out.cell 5
    have c6 : W2.cell? ⟨w.heap.size, 6, none⟩ = some (.bool a6) := h6 ▸ HB.out.cell 6
    have c0 : W2.cell? ⟨w.heap.size, 0, none⟩ = some (.int .i64 i.op) := HB.out.cell 0
    have hna : hasAq (formOf i.op) = false → a5 = false ∧ a6 = false := fun h => by
      have hgd : i.good = true := hg
      unfold Ins.good goodOf at hgd
      rw [h, h5, h6] at hgd
      cases a5 <;> cases a6 <;> simp at hgd ⊢
    obtain ⟨s0, hs0⟩ : ∃ s, nameL i.op ++ sufL i.aq i.rl = s := ⟨_, rfl⟩
    rw [hs0] at hl0 htx
    rw [h5, h6] at hs0
    replace hs0 := Lib.hid hs0
    clear hsf hsl h5 h6
    generalize nameL i.op = nm at *
    have hix : ∀ (a b c d : Int) (V : World), (Instr.index 73 (.agg #[.int .i64 a, .int .i64 b, .int .i64 c, .int .i64 d]) (.int .i64 0)).run Tryz.prog V = .ok (.int .i64 a) V := fun _ _ _ _ _ => by kernel_rfl
    generalize formOf i.op = f at *
    rcases hcs with hcs | hcs | hcs | hcs | hcs | hcs | hcs | hcs | hcs | hcs | hcs | hcs | hcs
    · exact absurd hcs hf0
    · subst hcs
      obtain ⟨rfl, rfl⟩ := hna (by decide)
      obtain rfl : nm = s0 := by rw [← hs0.out]; simp [sufL]
      clear hs0
      have ht : textL i = ((((nm ++ [32, 120]) ++ Lib.itoa i.rd) ++ [32]) ++ Lib.itoa i.imm) := by rw [htx]; simp [fldL, hasRd, hasRs1, hasRs2, hasImm]
      clear htx
      have e1 := str_cat nm [32, 120]
      have g1 := str_cat (nm ++ [32, 120]) (Lib.itoa i.rd)
      have l1 : (nm ++ [32, 120]).length ≤ 16 := by simp only [List.length_append, List.length_cons, List.length_nil]; omega
      have m1 : ((nm ++ [32, 120]) ++ Lib.itoa i.rd).length ≤ 37 := by rw [List.length_append]; omega
      generalize hz1 : (nm ++ [32, 120]) ++ Lib.itoa i.rd = s1 at *
      clear hz1
      generalize nm ++ [32, 120] = u1 at *
      have e2 := str_cat s1 [32]
      have g2 := str_cat (s1 ++ [32]) (Lib.itoa i.imm)
      have l2 : (s1 ++ [32]).length ≤ 39 := by simp only [List.length_append, List.length_cons, List.length_nil]; omega
      have m2 : ((s1 ++ [32]) ++ Lib.itoa i.imm).length ≤ 60 := by rw [List.length_append]; omega
      generalize hz2 : (s1 ++ [32]) ++ Lib.itoa i.imm = s2 at *
      clear hz2
      generalize s1 ++ [32] = u2 at *
      have ht := Lib.hid ht
      go_wp2_with (first
        | (go_at_call 36; refine (HR.out _).mono ?_; clear HR; rintro e W3 ⟨rfl, dW⟩; replace HB := Lib.hid (HB.out.below dW); replace D := Lib.hid (D.out.trans (dW.mono D.out.size)); clear dW c0 c5 c6; have c1 : W3.cell? ⟨w.heap.size, 1, none⟩ = some (.int .i64 i.rd) := HB.out.cell 1; have c2 : W3.cell? ⟨w.heap.size, 2, none⟩ = some (.int .i64 i.rs1) := HB.out.cell 2; have c3 : W3.cell? ⟨w.heap.size, 3, none⟩ = some (.int .i64 i.rs2) := HB.out.cell 3; have c4 : W3.cell? ⟨w.heap.size, 4, none⟩ = some (.int .i64 i.imm) := HB.out.cell 4)
        | (go_at_call 37; refine (N1.out _).mono ?_; clear N1; rintro e V ⟨rfl, dW⟩; replace HB := Lib.hid (HB.out.below dW); replace D := Lib.hid (D.out.trans (dW.mono D.out.size)); clear dW c1 c2 c3 c4; have c1 : V.cell? ⟨w.heap.size, 1, none⟩ = some (.int .i64 i.rd) := HB.out.cell 1; have c2 : V.cell? ⟨w.heap.size, 2, none⟩ = some (.int .i64 i.rs1) := HB.out.cell 2; have c3 : V.cell? ⟨w.heap.size, 3, none⟩ = some (.int .i64 i.rs2) := HB.out.cell 3; have c4 : V.cell? ⟨w.heap.size, 4, none⟩ = some (.int .i64 i.imm) := HB.out.cell 4)
        | (go_at_call 37; refine (N4.out _).mono ?_; clear N4; rintro e V ⟨rfl, dW⟩; replace HB := Lib.hid (HB.out.below dW); replace D := Lib.hid (D.out.trans (dW.mono D.out.size)); clear dW c1 c2 c3 c4; have c1 : V.cell? ⟨w.heap.size, 1, none⟩ = some (.int .i64 i.rd) := HB.out.cell 1; have c2 : V.cell? ⟨w.heap.size, 2, none⟩ = some (.int .i64 i.rs1) := HB.out.cell 2; have c3 : V.cell? ⟨w.heap.size, 3, none⟩ = some (.int .i64 i.rs2) := HB.out.cell 3; have c4 : V.cell? ⟨w.heap.size, 4, none⟩ = some (.int .i64 i.imm) := HB.out.cell 4))
      go_ret
      exact ⟨by rw [ht.out]; rfl, D.out⟩
    · subst hcs
      obtain ⟨rfl, rfl⟩ := hna (by decide)
      obtain rfl : nm = s0 := by rw [← hs0.out]; simp [sufL]
      clear hs0
      have ht : textL i = ((((nm ++ [32, 120]) ++ Lib.itoa i.rd) ++ [32]) ++ Lib.itoa i.imm) := by rw [htx]; simp [fldL, hasRd, hasRs1, hasRs2, hasImm]
      clear htx
      have e1 := str_cat nm [32, 120]
      have g1 := str_cat (nm ++ [32, 120]) (Lib.itoa i.rd)
      have l1 : (nm ++ [32, 120]).length ≤ 16 := by simp only [List.length_append, List.length_cons, List.length_nil]; omega
      have m1 : ((nm ++ [32, 120]) ++ Lib.itoa i.rd).length ≤ 37 := by rw [List.length_append]; omega
      generalize hz1 : (nm ++ [32, 120]) ++ Lib.itoa i.rd = s1 at *
      clear hz1
      generalize nm ++ [32, 120] = u1 at *
      have e2 := str_cat s1 [32]
      have g2 := str_cat (s1 ++ [32]) (Lib.itoa i.imm)
      have l2 : (s1 ++ [32]).length ≤ 39 := by simp only [List.length_append, List.length_cons, List.length_nil]; omega
      have m2 : ((s1 ++ [32]) ++ Lib.itoa i.imm).length ≤ 60 := by rw [List.length_append]; omega
      generalize hz2 : (s1 ++ [32]) ++ Lib.itoa i.imm = s2 at *
      clear hz2
      generalize s1 ++ [32] = u2 at *
      have ht := Lib.hid ht
      go_wp2_with (first
        | (go_at_call 36; refine (HR.out _).mono ?_; clear HR; rintro e W3 ⟨rfl, dW⟩; replace HB := Lib.hid (HB.out.below dW); replace D := Lib.hid (D.out.trans (dW.mono D.out.size)); clear dW c0 c5 c6; have c1 : W3.cell? ⟨w.heap.size, 1, none⟩ = some (.int .i64 i.rd) := HB.out.cell 1; have c2 : W3.cell? ⟨w.heap.size, 2, none⟩ = some (.int .i64 i.rs1) := HB.out.cell 2; have c3 : W3.cell? ⟨w.heap.size, 3, none⟩ = some (.int .i64 i.rs2) := HB.out.cell 3; have c4 : W3.cell? ⟨w.heap.size, 4, none⟩ = some (.int .i64 i.imm) := HB.out.cell 4)
        | (go_at_call 37; refine (N1.out _).mono ?_; clear N1; rintro e V ⟨rfl, dW⟩; replace HB := Lib.hid (HB.out.below dW); replace D := Lib.hid (D.out.trans (dW.mono D.out.size)); clear dW c1 c2 c3 c4; have c1 : V.cell? ⟨w.heap.size, 1, none⟩ = some (.int .i64 i.rd) := HB.out.cell 1; have c2 : V.cell? ⟨w.heap.size, 2, none⟩ = some (.int .i64 i.rs1) := HB.out.cell 2; have c3 : V.cell? ⟨w.heap.size, 3, none⟩ = some (.int .i64 i.rs2) := HB.out.cell 3; have c4 : V.cell? ⟨w.heap.size, 4, none⟩ = some (.int .i64 i.imm) := HB.out.cell 4)
        | (go_at_call 37; refine (N4.out _).mono ?_; clear N4; rintro e V ⟨rfl, dW⟩; replace HB := Lib.hid (HB.out.below dW); replace D := Lib.hid (D.out.trans (dW.mono D.out.size)); clear dW c1 c2 c3 c4; have c1 : V.cell? ⟨w.heap.size, 1, none⟩ = some (.int .i64 i.rd) := HB.out.cell 1; have c2 : V.cell? ⟨w.heap.size, 2, none⟩ = some (.int .i64 i.rs1) := HB.out.cell 2; have c3 : V.cell? ⟨w.heap.size, 3, none⟩ = some (.int .i64 i.rs2) := HB.out.cell 3; have c4 : V.cell? ⟨w.heap.size, 4, none⟩ = some (.int .i64 i.imm) := HB.out.cell 4))
      go_ret
      exact ⟨by rw [ht.out]; rfl, D.out⟩
    · subst hcs
      obtain ⟨rfl, rfl⟩ := hna (by decide)
      obtain rfl : nm = s0 := by rw [← hs0.out]; simp [sufL]
      clear hs0
      have ht : textL i = ((((((nm ++ [32, 120]) ++ Lib.itoa i.rd) ++ [32, 120]) ++ Lib.itoa i.rs1) ++ [32]) ++ Lib.itoa i.imm) := by rw [htx]; simp [fldL, hasRd, hasRs1, hasRs2, hasImm]
      clear htx
      have e1 := str_cat nm [32, 120]
      have g1 := str_cat (nm ++ [32, 120]) (Lib.itoa i.rd)
      have l1 : (nm ++ [32, 120]).length ≤ 16 := by simp only [List.length_append, List.length_cons, List.length_nil]; omega
      have m1 : ((nm ++ [32, 120]) ++ Lib.itoa i.rd).length ≤ 37 := by rw [List.length_append]; omega
      generalize hz1 : (nm ++ [32, 120]) ++ Lib.itoa i.rd = s1 at *
      clear hz1
      generalize nm ++ [32, 120] = u1 at *
      have e2 := str_cat s1 [32, 120]
      have g2 := str_cat (s1 ++ [32, 120]) (Lib.itoa i.rs1)
      have l2 : (s1 ++ [32, 120]).length ≤ 39 := by simp only [List.length_append, List.length_cons, List.length_nil]; omega
      have m2 : ((s1 ++ [32, 120]) ++ Lib.itoa i.rs1).length ≤ 60 := by rw [List.length_append]; omega
      generalize hz2 : (s1 ++ [32, 120]) ++ Lib.itoa i.rs1 = s2 at *
      clear hz2
      generalize s1 ++ [32, 120] = u2 at *
      have e3 := str_cat s2 [32]
      have g3 := str_cat (s2 ++ [32]) (Lib.itoa i.imm)
      have l3 : (s2 ++ [32]).length ≤ 62 := by simp only [List.length_append, List.length_cons, List.length_nil]; omega
      have m3 : ((s2 ++ [32]) ++ Lib.itoa i.imm).length ≤ 83 := by rw [List.length_append]; omega
      generalize hz3 : (s2 ++ [32]) ++ Lib.itoa i.imm = s3 at *
      clear hz3
      generalize s2 ++ [32] = u3 at *
      have ht := Lib.hid ht
      go_wp2_with (first
        | (go_at_call 36; refine (HR.out _).mono ?_; clear HR; rintro e W3 ⟨rfl, dW⟩; replace HB := Lib.hid (HB.out.below dW); replace D := Lib.hid (D.out.trans (dW.mono D.out.size)); clear dW c0 c5 c6; have c1 : W3.cell? ⟨w.heap.size, 1, none⟩ = some (.int .i64 i.rd) := HB.out.cell 1; have c2 : W3.cell? ⟨w.heap.size, 2, none⟩ = some (.int .i64 i.rs1) := HB.out.cell 2; have c3 : W3.cell? ⟨w.heap.size, 3, none⟩ = some (.int .i64 i.rs2) := HB.out.cell 3; have c4 : W3.cell? ⟨w.heap.size, 4, none⟩ = some (.int .i64 i.imm) := HB.out.cell 4)
        | (go_at_call 37; refine (N1.out _).mono ?_; clear N1; rintro e V ⟨rfl, dW⟩; replace HB := Lib.hid (HB.out.below dW); replace D := Lib.hid (D.out.trans (dW.mono D.out.size)); clear dW c1 c2 c3 c4; have c1 : V.cell? ⟨w.heap.size, 1, none⟩ = some (.int .i64 i.rd) := HB.out.cell 1; have c2 : V.cell? ⟨w.heap.size, 2, none⟩ = some (.int .i64 i.rs1) := HB.out.cell 2; have c3 : V.cell? ⟨w.heap.size, 3, none⟩ = some (.int .i64 i.rs2) := HB.out.cell 3; have c4 : V.cell? ⟨w.heap.size, 4, none⟩ = some (.int .i64 i.imm) := HB.out.cell 4)
        | (go_at_call 37; refine (N2.out _).mono ?_; clear N2; rintro e V ⟨rfl, dW⟩; replace HB := Lib.hid (HB.out.below dW); replace D := Lib.hid (D.out.trans (dW.mono D.out.size)); clear dW c1 c2 c3 c4; have c1 : V.cell? ⟨w.heap.size, 1, none⟩ = some (.int .i64 i.rd) := HB.out.cell 1; have c2 : V.cell? ⟨w.heap.size, 2, none⟩ = some (.int .i64 i.rs1) := HB.out.cell 2; have c3 : V.cell? ⟨w.heap.size, 3, none⟩ = some (.int .i64 i.rs2) := HB.out.cell 3; have c4 : V.cell? ⟨w.heap.size, 4, none⟩ = some (.int .i64 i.imm) := HB.out.cell 4)
        | (go_at_call 37; refine (N4.out _).mono ?_; clear N4; rintro e V ⟨rfl, dW⟩; replace HB := Lib.hid (HB.out.below dW); replace D := Lib.hid (D.out.trans (dW.mono D.out.size)); clear dW c1 c2 c3 c4; have c1 : V.cell? ⟨w.heap.size, 1, none⟩ = some (.int .i64 i.rd) := HB.out.cell 1; have c2 : V.cell? ⟨w.heap.size, 2, none⟩ = some (.int .i64 i.rs1) := HB.out.cell 2; have c3 : V.cell? ⟨w.heap.size, 3, none⟩ = some (.int .i64 i.rs2) := HB.out.cell 3; have c4 : V.cell? ⟨w.heap.size, 4, none⟩ = some (.int .i64 i.imm) := HB.out.cell 4))
      go_ret
      exact ⟨by rw [ht.out]; rfl, D.out⟩
    · subst hcs
      obtain ⟨rfl, rfl⟩ := hna (by decide)
      obtain rfl : nm = s0 := by rw [← hs0.out]; simp [sufL]
      clear hs0
      have ht : textL i = ((((((nm ++ [32, 120]) ++ Lib.itoa i.rs1) ++ [32, 120]) ++ Lib.itoa i.rs2) ++ [32]) ++ Lib.itoa i.imm) := by rw [htx]; simp [fldL, hasRd, hasRs1, hasRs2, hasImm]
      clear htx
      have e1 := str_cat nm [32, 120]
      have g1 := str_cat (nm ++ [32, 120]) (Lib.itoa i.rs1)
      have l1 : (nm ++ [32, 120]).length ≤ 16 := by simp only [List.length_append, List.length_cons, List.length_nil]; omega
      have m1 : ((nm ++ [32, 120]) ++ Lib.itoa i.rs1).length ≤ 37 := by rw [List.length_append]; omega
      generalize hz1 : (nm ++ [32, 120]) ++ Lib.itoa i.rs1 = s1 at *
      clear hz1
      generalize nm ++ [32, 120] = u1 at *
      have e2 := str_cat s1 [32, 120]
      have g2 := str_cat (s1 ++ [32, 120]) (Lib.itoa i.rs2)
      have l2 : (s1 ++ [32, 120]).length ≤ 39 := by simp only [List.length_append, List.length_cons, List.length_nil]; omega
      have m2 : ((s1 ++ [32, 120]) ++ Lib.itoa i.rs2).length ≤ 60 := by rw [List.length_append]; omega
      generalize hz2 : (s1 ++ [32, 120]) ++ Lib.itoa i.rs2 = s2 at *
      clear hz2
      generalize s1 ++ [32, 120] = u2 at *
      have e3 := str_cat s2 [32]
      have g3 := str_cat (s2 ++ [32]) (Lib.itoa i.imm)
      have l3 : (s2 ++ [32]).length ≤ 62 := by simp only [List.length_append, List.length_cons, List.length_nil]; omega
      have m3 : ((s2 ++ [32]) ++ Lib.itoa i.imm).length ≤ 83 := by rw [List.length_append]; omega
      generalize hz3 : (s2 ++ [32]) ++ Lib.itoa i.imm = s3 at *
      clear hz3
      generalize s2 ++ [32] = u3 at *
      have ht := Lib.hid ht
      go_wp2_with (first
        | (go_at_call 36; refine (HR.out _).mono ?_; clear HR; rintro e W3 ⟨rfl, dW⟩; replace HB := Lib.hid (HB.out.below dW); replace D := Lib.hid (D.out.trans (dW.mono D.out.size)); clear dW c0 c5 c6; have c1 : W3.cell? ⟨w.heap.size, 1, none⟩ = some (.int .i64 i.rd) := HB.out.cell 1; have c2 : W3.cell? ⟨w.heap.size, 2, none⟩ = some (.int .i64 i.rs1) := HB.out.cell 2; have c3 : W3.cell? ⟨w.heap.size, 3, none⟩ = some (.int .i64 i.rs2) := HB.out.cell 3; have c4 : W3.cell? ⟨w.heap.size, 4, none⟩ = some (.int .i64 i.imm) := HB.out.cell 4)
        | (go_at_call 37; refine (N2.out _).mono ?_; clear N2; rintro e V ⟨rfl, dW⟩; replace HB := Lib.hid (HB.out.below dW); replace D := Lib.hid (D.out.trans (dW.mono D.out.size)); clear dW c1 c2 c3 c4; have c1 : V.cell? ⟨w.heap.size, 1, none⟩ = some (.int .i64 i.rd) := HB.out.cell 1; have c2 : V.cell? ⟨w.heap.size, 2, none⟩ = some (.int .i64 i.rs1) := HB.out.cell 2; have c3 : V.cell? ⟨w.heap.size, 3, none⟩ = some (.int .i64 i.rs2) := HB.out.cell 3; have c4 : V.cell? ⟨w.heap.size, 4, none⟩ = some (.int .i64 i.imm) := HB.out.cell 4)
        | (go_at_call 37; refine (N3.out _).mono ?_; clear N3; rintro e V ⟨rfl, dW⟩; replace HB := Lib.hid (HB.out.below dW); replace D := Lib.hid (D.out.trans (dW.mono D.out.size)); clear dW c1 c2 c3 c4; have c1 : V.cell? ⟨w.heap.size, 1, none⟩ = some (.int .i64 i.rd) := HB.out.cell 1; have c2 : V.cell? ⟨w.heap.size, 2, none⟩ = some (.int .i64 i.rs1) := HB.out.cell 2; have c3 : V.cell? ⟨w.heap.size, 3, none⟩ = some (.int .i64 i.rs2) := HB.out.cell 3; have c4 : V.cell? ⟨w.heap.size, 4, none⟩ = some (.int .i64 i.imm) := HB.out.cell 4)
        | (go_at_call 37; refine (N4.out _).mono ?_; clear N4; rintro e V ⟨rfl, dW⟩; replace HB := Lib.hid (HB.out.below dW); replace D := Lib.hid (D.out.trans (dW.mono D.out.size)); clear dW c1 c2 c3 c4; have c1 : V.cell? ⟨w.heap.size, 1, none⟩ = some (.int .i64 i.rd) := HB.out.cell 1; have c2 : V.cell? ⟨w.heap.size, 2, none⟩ = some (.int .i64 i.rs1) := HB.out.cell 2; have c3 : V.cell? ⟨w.heap.size, 3, none⟩ = some (.int .i64 i.rs2) := HB.out.cell 3; have c4 : V.cell? ⟨w.heap.size, 4, none⟩ = some (.int .i64 i.imm) := HB.out.cell 4))
      go_ret
      exact ⟨by rw [ht.out]; rfl, D.out⟩
    · subst hcs
      obtain ⟨rfl, rfl⟩ := hna (by decide)
      obtain rfl : nm = s0 := by rw [← hs0.out]; simp [sufL]
      clear hs0
      have ht : textL i = ((((((nm ++ [32, 120]) ++ Lib.itoa i.rs1) ++ [32, 120]) ++ Lib.itoa i.rs2) ++ [32]) ++ Lib.itoa i.imm) := by rw [htx]; simp [fldL, hasRd, hasRs1, hasRs2, hasImm]
      clear htx
      have e1 := str_cat nm [32, 120]
      have g1 := str_cat (nm ++ [32, 120]) (Lib.itoa i.rs1)
      have l1 : (nm ++ [32, 120]).length ≤ 16 := by simp only [List.length_append, List.length_cons, List.length_nil]; omega
      have m1 : ((nm ++ [32, 120]) ++ Lib.itoa i.rs1).length ≤ 37 := by rw [List.length_append]; omega
      generalize hz1 : (nm ++ [32, 120]) ++ Lib.itoa i.rs1 = s1 at *
      clear hz1
      generalize nm ++ [32, 120] = u1 at *
      have e2 := str_cat s1 [32, 120]
      have g2 := str_cat (s1 ++ [32, 120]) (Lib.itoa i.rs2)
      have l2 : (s1 ++ [32, 120]).length ≤ 39 := by simp only [List.length_append, List.length_cons, List.length_nil]; omega
      have m2 : ((s1 ++ [32, 120]) ++ Lib.itoa i.rs2).length ≤ 60 := by rw [List.length_append]; omega
      generalize hz2 : (s1 ++ [32, 120]) ++ Lib.itoa i.rs2 = s2 at *
      clear hz2
      generalize s1 ++ [32, 120] = u2 at *
      have e3 := str_cat s2 [32]
      have g3 := str_cat (s2 ++ [32]) (Lib.itoa i.imm)
      have l3 : (s2 ++ [32]).length ≤ 62 := by simp only [List.length_append, List.length_cons, List.length_nil]; omega
      have m3 : ((s2 ++ [32]) ++ Lib.itoa i.imm).length ≤ 83 := by rw [List.length_append]; omega
      generalize hz3 : (s2 ++ [32]) ++ Lib.itoa i.imm = s3 at *
      clear hz3
      generalize s2 ++ [32] = u3 at *
      have ht := Lib.hid ht
      go_wp2_with (first
        | (go_at_call 36; refine (HR.out _).mono ?_; clear HR; rintro e W3 ⟨rfl, dW⟩; replace HB := Lib.hid (HB.out.below dW); replace D := Lib.hid (D.out.trans (dW.mono D.out.size)); clear dW c0 c5 c6; have c1 : W3.cell? ⟨w.heap.size, 1, none⟩ = some (.int .i64 i.rd) := HB.out.cell 1; have c2 : W3.cell? ⟨w.heap.size, 2, none⟩ = some (.int .i64 i.rs1) := HB.out.cell 2; have c3 : W3.cell? ⟨w.heap.size, 3, none⟩ = some (.int .i64 i.rs2) := HB.out.cell 3; have c4 : W3.cell? ⟨w.heap.size, 4, none⟩ = some (.int .i64 i.imm) := HB.out.cell 4)
        | (go_at_call 37; refine (N2.out _).mono ?_; clear N2; rintro e V ⟨rfl, dW⟩; replace HB := Lib.hid (HB.out.below dW); replace D := Lib.hid (D.out.trans (dW.mono D.out.size)); clear dW c1 c2 c3 c4; have c1 : V.cell? ⟨w.heap.size, 1, none⟩ = some (.int .i64 i.rd) := HB.out.cell 1; have c2 : V.cell? ⟨w.heap.size, 2, none⟩ = some (.int .i64 i.rs1) := HB.out.cell 2; have c3 : V.cell? ⟨w.heap.size, 3, none⟩ = some (.int .i64 i.rs2) := HB.out.cell 3; have c4 : V.cell? ⟨w.heap.size, 4, none⟩ = some (.int .i64 i.imm) := HB.out.cell 4)
        | (go_at_call 37; refine (N3.out _).mono ?_; clear N3; rintro e V ⟨rfl, dW⟩; replace HB := Lib.hid (HB.out.below dW); replace D := Lib.hid (D.out.trans (dW.mono D.out.size)); clear dW c1 c2 c3 c4; have c1 : V.cell? ⟨w.heap.size, 1, none⟩ = some (.int .i64 i.rd) := HB.out.cell 1; have c2 : V.cell? ⟨w.heap.size, 2, none⟩ = some (.int .i64 i.rs1) := HB.out.cell 2; have c3 : V.cell? ⟨w.heap.size, 3, none⟩ = some (.int .i64 i.rs2) := HB.out.cell 3; have c4 : V.cell? ⟨w.heap.size, 4, none⟩ = some (.int .i64 i.imm) := HB.out.cell 4)
        | (go_at_call 37; refine (N4.out _).mono ?_; clear N4; rintro e V ⟨rfl, dW⟩; replace HB := Lib.hid (HB.out.below dW); replace D := Lib.hid (D.out.trans (dW.mono D.out.size)); clear dW c1 c2 c3 c4; have c1 : V.cell? ⟨w.heap.size, 1, none⟩ = some (.int .i64 i.rd) := HB.out.cell 1; have c2 : V.cell? ⟨w.heap.size, 2, none⟩ = some (.int .i64 i.rs1) := HB.out.cell 2; have c3 : V.cell? ⟨w.heap.size, 3, none⟩ = some (.int .i64 i.rs2) := HB.out.cell 3; have c4 : V.cell? ⟨w.heap.size, 4, none⟩ = some (.int .i64 i.imm) := HB.out.cell 4))
      go_ret
      exact ⟨by rw [ht.out]; rfl, D.out⟩
    · subst hcs
      obtain ⟨rfl, rfl⟩ := hna (by decide)
      obtain rfl : nm = s0 := by rw [← hs0.out]; simp [sufL]
      clear hs0
      have ht : textL i = ((((((nm ++ [32, 120]) ++ Lib.itoa i.rd) ++ [32, 120]) ++ Lib.itoa i.rs1) ++ [32]) ++ Lib.itoa i.imm) := by rw [htx]; simp [fldL, hasRd, hasRs1, hasRs2, hasImm]
      clear htx
      have e1 := str_cat nm [32, 120]
      have g1 := str_cat (nm ++ [32, 120]) (Lib.itoa i.rd)
      have l1 : (nm ++ [32, 120]).length ≤ 16 := by simp only [List.length_append, List.length_cons, List.length_nil]; omega
      have m1 : ((nm ++ [32, 120]) ++ Lib.itoa i.rd).length ≤ 37 := by rw [List.length_append]; omega
      generalize hz1 : (nm ++ [32, 120]) ++ Lib.itoa i.rd = s1 at *
      clear hz1
      generalize nm ++ [32, 120] = u1 at *
      have e2 := str_cat s1 [32, 120]
      have g2 := str_cat (s1 ++ [32, 120]) (Lib.itoa i.rs1)
      have l2 : (s1 ++ [32, 120]).length ≤ 39 := by simp only [List.length_append, List.length_cons, List.length_nil]; omega
      have m2 : ((s1 ++ [32, 120]) ++ Lib.itoa i.rs1).length ≤ 60 := by rw [List.length_append]; omega
      generalize hz2 : (s1 ++ [32, 120]) ++ Lib.itoa i.rs1 = s2 at *
      clear hz2
      generalize s1 ++ [32, 120] = u2 at *
      have e3 := str_cat s2 [32]
      have g3 := str_cat (s2 ++ [32]) (Lib.itoa i.imm)
      have l3 : (s2 ++ [32]).length ≤ 62 := by simp only [List.length_append, List.length_cons, List.length_nil]; omega
      have m3 : ((s2 ++ [32]) ++ Lib.itoa i.imm).length ≤ 83 := by rw [List.length_append]; omega
      generalize hz3 : (s2 ++ [32]) ++ Lib.itoa i.imm = s3 at *
      clear hz3
      generalize s2 ++ [32] = u3 at *
      have ht := Lib.hid ht
      go_wp2_with (first
        | (go_at_call 36; refine (HR.out _).mono ?_; clear HR; rintro e W3 ⟨rfl, dW⟩; replace HB := Lib.hid (HB.out.below dW); replace D := Lib.hid (D.out.trans (dW.mono D.out.size)); clear dW c0 c5 c6; have c1 : W3.cell? ⟨w.heap.size, 1, none⟩ = some (.int .i64 i.rd) := HB.out.cell 1; have c2 : W3.cell? ⟨w.heap.size, 2, none⟩ = some (.int .i64 i.rs1) := HB.out.cell 2; have c3 : W3.cell? ⟨w.heap.size, 3, none⟩ = some (.int .i64 i.rs2) := HB.out.cell 3; have c4 : W3.cell? ⟨w.heap.size, 4, none⟩ = some (.int .i64 i.imm) := HB.out.cell 4)
        | (go_at_call 37; refine (N1.out _).mono ?_; clear N1; rintro e V ⟨rfl, dW⟩; replace HB := Lib.hid (HB.out.below dW); replace D := Lib.hid (D.out.trans (dW.mono D.out.size)); clear dW c1 c2 c3 c4; have c1 : V.cell? ⟨w.heap.size, 1, none⟩ = some (.int .i64 i.rd) := HB.out.cell 1; have c2 : V.cell? ⟨w.heap.size, 2, none⟩ = some (.int .i64 i.rs1) := HB.out.cell 2; have c3 : V.cell? ⟨w.heap.size, 3, none⟩ = some (.int .i64 i.rs2) := HB.out.cell 3; have c4 : V.cell? ⟨w.heap.size, 4, none⟩ = some (.int .i64 i.imm) := HB.out.cell 4)
        | (go_at_call 37; refine (N2.out _).mono ?_; clear N2; rintro e V ⟨rfl, dW⟩; replace HB := Lib.hid (HB.out.below dW); replace D := Lib.hid (D.out.trans (dW.mono D.out.size)); clear dW c1 c2 c3 c4; have c1 : V.cell? ⟨w.heap.size, 1, none⟩ = some (.int .i64 i.rd) := HB.out.cell 1; have c2 : V.cell? ⟨w.heap.size, 2, none⟩ = some (.int .i64 i.rs1) := HB.out.cell 2; have c3 : V.cell? ⟨w.heap.size, 3, none⟩ = some (.int .i64 i.rs2) := HB.out.cell 3; have c4 : V.cell? ⟨w.heap.size, 4, none⟩ = some (.int .i64 i.imm) := HB.out.cell 4)
        | (go_at_call 37; refine (N4.out _).mono ?_; clear N4; rintro e V ⟨rfl, dW⟩; replace HB := Lib.hid (HB.out.below dW); replace D := Lib.hid (D.out.trans (dW.mono D.out.size)); clear dW c1 c2 c3 c4; have c1 : V.cell? ⟨w.heap.size, 1, none⟩ = some (.int .i64 i.rd) := HB.out.cell 1; have c2 : V.cell? ⟨w.heap.size, 2, none⟩ = some (.int .i64 i.rs1) := HB.out.cell 2; have c3 : V.cell? ⟨w.heap.size, 3, none⟩ = some (.int .i64 i.rs2) := HB.out.cell 3; have c4 : V.cell? ⟨w.heap.size, 4, none⟩ = some (.int .i64 i.imm) := HB.out.cell 4))
      go_ret
      exact ⟨by rw [ht.out]; rfl, D.out⟩
    · subst hcs
      obtain ⟨rfl, rfl⟩ := hna (by decide)
      obtain rfl : nm = s0 := by rw [← hs0.out]; simp [sufL]
      clear hs0
      have ht : textL i = ((((((nm ++ [32, 120]) ++ Lib.itoa i.rd) ++ [32, 120]) ++ Lib.itoa i.rs1) ++ [32]) ++ Lib.itoa i.imm) := by rw [htx]; simp [fldL, hasRd, hasRs1, hasRs2, hasImm]
      clear htx
      have e1 := str_cat nm [32, 120]
      have g1 := str_cat (nm ++ [32, 120]) (Lib.itoa i.rd)
      have l1 : (nm ++ [32, 120]).length ≤ 16 := by simp only [List.length_append, List.length_cons, List.length_nil]; omega
      have m1 : ((nm ++ [32, 120]) ++ Lib.itoa i.rd).length ≤ 37 := by rw [List.length_append]; omega
      generalize hz1 : (nm ++ [32, 120]) ++ Lib.itoa i.rd = s1 at *
      clear hz1
      generalize nm ++ [32, 120] = u1 at *
      have e2 := str_cat s1 [32, 120]
      have g2 := str_cat (s1 ++ [32, 120]) (Lib.itoa i.rs1)
      have l2 : (s1 ++ [32, 120]).length ≤ 39 := by simp only [List.length_append, List.length_cons, List.length_nil]; omega
      have m2 : ((s1 ++ [32, 120]) ++ Lib.itoa i.rs1).length ≤ 60 := by rw [List.length_append]; omega
      generalize hz2 : (s1 ++ [32, 120]) ++ Lib.itoa i.rs1 = s2 at *
      clear hz2
      generalize s1 ++ [32, 120] = u2 at *
      have e3 := str_cat s2 [32]
      have g3 := str_cat (s2 ++ [32]) (Lib.itoa i.imm)
      have l3 : (s2 ++ [32]).length ≤ 62 := by simp only [List.length_append, List.length_cons, List.length_nil]; omega
      have m3 : ((s2 ++ [32]) ++ Lib.itoa i.imm).length ≤ 83 := by rw [List.length_append]; omega
      generalize hz3 : (s2 ++ [32]) ++ Lib.itoa i.imm = s3 at *
      clear hz3
      generalize s2 ++ [32] = u3 at *
      have ht := Lib.hid ht
      go_wp2_with (first
        | (go_at_call 36; refine (HR.out _).mono ?_; clear HR; rintro e W3 ⟨rfl, dW⟩; replace HB := Lib.hid (HB.out.below dW); replace D := Lib.hid (D.out.trans (dW.mono D.out.size)); clear dW c0 c5 c6; have c1 : W3.cell? ⟨w.heap.size, 1, none⟩ = some (.int .i64 i.rd) := HB.out.cell 1; have c2 : W3.cell? ⟨w.heap.size, 2, none⟩ = some (.int .i64 i.rs1) := HB.out.cell 2; have c3 : W3.cell? ⟨w.heap.size, 3, none⟩ = some (.int .i64 i.rs2) := HB.out.cell 3; have c4 : W3.cell? ⟨w.heap.size, 4, none⟩ = some (.int .i64 i.imm) := HB.out.cell 4)
        | (go_at_call 37; refine (N1.out _).mono ?_; clear N1; rintro e V ⟨rfl, dW⟩; replace HB := Lib.hid (HB.out.below dW); replace D := Lib.hid (D.out.trans (dW.mono D.out.size)); clear dW c1 c2 c3 c4; have c1 : V.cell? ⟨w.heap.size, 1, none⟩ = some (.int .i64 i.rd) := HB.out.cell 1; have c2 : V.cell? ⟨w.heap.size, 2, none⟩ = some (.int .i64 i.rs1) := HB.out.cell 2; have c3 : V.cell? ⟨w.heap.size, 3, none⟩ = some (.int .i64 i.rs2) := HB.out.cell 3; have c4 : V.cell? ⟨w.heap.size, 4, none⟩ = some (.int .i64 i.imm) := HB.out.cell 4)
        | (go_at_call 37; refine (N2.out _).mono ?_; clear N2; rintro e V ⟨rfl, dW⟩; replace HB := Lib.hid (HB.out.below dW); replace D := Lib.hid (D.out.trans (dW.mono D.out.size)); clear dW c1 c2 c3 c4; have c1 : V.cell? ⟨w.heap.size, 1, none⟩ = some (.int .i64 i.rd) := HB.out.cell 1; have c2 : V.cell? ⟨w.heap.size, 2, none⟩ = some (.int .i64 i.rs1) := HB.out.cell 2; have c3 : V.cell? ⟨w.heap.size, 3, none⟩ = some (.int .i64 i.rs2) := HB.out.cell 3; have c4 : V.cell? ⟨w.heap.size, 4, none⟩ = some (.int .i64 i.imm) := HB.out.cell 4)
        | (go_at_call 37; refine (N4.out _).mono ?_; clear N4; rintro e V ⟨rfl, dW⟩; replace HB := Lib.hid (HB.out.below dW); replace D := Lib.hid (D.out.trans (dW.mono D.out.size)); clear dW c1 c2 c3 c4; have c1 : V.cell? ⟨w.heap.size, 1, none⟩ = some (.int .i64 i.rd) := HB.out.cell 1; have c2 : V.cell? ⟨w.heap.size, 2, none⟩ = some (.int .i64 i.rs1) := HB.out.cell 2; have c3 : V.cell? ⟨w.heap.size, 3, none⟩ = some (.int .i64 i.rs2) := HB.out.cell 3; have c4 : V.cell? ⟨w.heap.size, 4, none⟩ = some (.int .i64 i.imm) := HB.out.cell 4))
      go_ret
      exact ⟨by rw [ht.out]; rfl, D.out⟩
    · subst hcs
      obtain ⟨rfl, rfl⟩ := hna (by decide)
      obtain rfl : nm = s0 := by rw [← hs0.out]; simp [sufL]
      clear hs0
      have ht : textL i = ((((((nm ++ [32, 120]) ++ Lib.itoa i.rd) ++ [32, 120]) ++ Lib.itoa i.rs1) ++ [32, 120]) ++ Lib.itoa i.rs2) := by rw [htx]; simp [fldL, hasRd, hasRs1, hasRs2, hasImm]
      clear htx
      have e1 := str_cat nm [32, 120]
      have g1 := str_cat (nm ++ [32, 120]) (Lib.itoa i.rd)
      have l1 : (nm ++ [32, 120]).length ≤ 16 := by simp only [List.length_append, List.length_cons, List.length_nil]; omega
      have m1 : ((nm ++ [32, 120]) ++ Lib.itoa i.rd).length ≤ 37 := by rw [List.length_append]; omega
      generalize hz1 : (nm ++ [32, 120]) ++ Lib.itoa i.rd = s1 at *
      clear hz1
      generalize nm ++ [32, 120] = u1 at *
      have e2 := str_cat s1 [32, 120]
      have g2 := str_cat (s1 ++ [32, 120]) (Lib.itoa i.rs1)
      have l2 : (s1 ++ [32, 120]).length ≤ 39 := by simp only [List.length_append, List.length_cons, List.length_nil]; omega
      have m2 : ((s1 ++ [32, 120]) ++ Lib.itoa i.rs1).length ≤ 60 := by rw [List.length_append]; omega
      generalize hz2 : (s1 ++ [32, 120]) ++ Lib.itoa i.rs1 = s2 at *
      clear hz2
      generalize s1 ++ [32, 120] = u2 at *
      have e3 := str_cat s2 [32, 120]
      have g3 := str_cat (s2 ++ [32, 120]) (Lib.itoa i.rs2)
      have l3 : (s2 ++ [32, 120]).length ≤ 62 := by simp only [List.length_append, List.length_cons, List.length_nil]; omega
      have m3 : ((s2 ++ [32, 120]) ++ Lib.itoa i.rs2).length ≤ 83 := by rw [List.length_append]; omega
      generalize hz3 : (s2 ++ [32, 120]) ++ Lib.itoa i.rs2 = s3 at *
      clear hz3
      generalize s2 ++ [32, 120] = u3 at *
      have ht := Lib.hid ht
      go_wp2_with (first
        | (go_at_call 36; refine (HR.out _).mono ?_; clear HR; rintro e W3 ⟨rfl, dW⟩; replace HB := Lib.hid (HB.out.below dW); replace D := Lib.hid (D.out.trans (dW.mono D.out.size)); clear dW c0 c5 c6; have c1 : W3.cell? ⟨w.heap.size, 1, none⟩ = some (.int .i64 i.rd) := HB.out.cell 1; have c2 : W3.cell? ⟨w.heap.size, 2, none⟩ = some (.int .i64 i.rs1) := HB.out.cell 2; have c3 : W3.cell? ⟨w.heap.size, 3, none⟩ = some (.int .i64 i.rs2) := HB.out.cell 3; have c4 : W3.cell? ⟨w.heap.size, 4, none⟩ = some (.int .i64 i.imm) := HB.out.cell 4)
        | (go_at_call 37; refine (N1.out _).mono ?_; clear N1; rintro e V ⟨rfl, dW⟩; replace HB := Lib.hid (HB.out.below dW); replace D := Lib.hid (D.out.trans (dW.mono D.out.size)); clear dW c1 c2 c3 c4; have c1 : V.cell? ⟨w.heap.size, 1, none⟩ = some (.int .i64 i.rd) := HB.out.cell 1; have c2 : V.cell? ⟨w.heap.size, 2, none⟩ = some (.int .i64 i.rs1) := HB.out.cell 2; have c3 : V.cell? ⟨w.heap.size, 3, none⟩ = some (.int .i64 i.rs2) := HB.out.cell 3; have c4 : V.cell? ⟨w.heap.size, 4, none⟩ = some (.int .i64 i.imm) := HB.out.cell 4)
        | (go_at_call 37; refine (N2.out _).mono ?_; clear N2; rintro e V ⟨rfl, dW⟩; replace HB := Lib.hid (HB.out.below dW); replace D := Lib.hid (D.out.trans (dW.mono D.out.size)); clear dW c1 c2 c3 c4; have c1 : V.cell? ⟨w.heap.size, 1, none⟩ = some (.int .i64 i.rd) := HB.out.cell 1; have c2 : V.cell? ⟨w.heap.size, 2, none⟩ = some (.int .i64 i.rs1) := HB.out.cell 2; have c3 : V.cell? ⟨w.heap.size, 3, none⟩ = some (.int .i64 i.rs2) := HB.out.cell 3; have c4 : V.cell? ⟨w.heap.size, 4, none⟩ = some (.int .i64 i.imm) := HB.out.cell 4)
        | (go_at_call 37; refine (N3.out _).mono ?_; clear N3; rintro e V ⟨rfl, dW⟩; replace HB := Lib.hid (HB.out.below dW); replace D := Lib.hid (D.out.trans (dW.mono D.out.size)); clear dW c1 c2 c3 c4; have c1 : V.cell? ⟨w.heap.size, 1, none⟩ = some (.int .i64 i.rd) := HB.out.cell 1; have c2 : V.cell? ⟨w.heap.size, 2, none⟩ = some (.int .i64 i.rs1) := HB.out.cell 2; have c3 : V.cell? ⟨w.heap.size, 3, none⟩ = some (.int .i64 i.rs2) := HB.out.cell 3; have c4 : V.cell? ⟨w.heap.size, 4, none⟩ = some (.int .i64 i.imm) := HB.out.cell 4))
      go_ret
      exact ⟨by rw [ht.out]; rfl, D.out⟩
    · subst hcs
      obtain ⟨rfl, rfl⟩ := hna (by decide)
      obtain rfl : nm = s0 := by rw [← hs0.out]; simp [sufL]
      clear hs0
      have ht : textL i = ((nm ++ [32]) ++ Lib.itoa i.imm) := by rw [htx]; simp [fldL, hasRd, hasRs1, hasRs2, hasImm]
      clear htx
      have e1 := str_cat nm [32]
      have g1 := str_cat (nm ++ [32]) (Lib.itoa i.imm)
      have l1 : (nm ++ [32]).length ≤ 16 := by simp only [List.length_append, List.length_cons, List.length_nil]; omega
      have m1 : ((nm ++ [32]) ++ Lib.itoa i.imm).length ≤ 37 := by rw [List.length_append]; omega
      generalize hz1 : (nm ++ [32]) ++ Lib.itoa i.imm = s1 at *
      clear hz1
      generalize nm ++ [32] = u1 at *
      have ht := Lib.hid ht
      go_wp2_with (first
        | (go_at_call 36; refine (HR.out _).mono ?_; clear HR; rintro e W3 ⟨rfl, dW⟩; replace HB := Lib.hid (HB.out.below dW); replace D := Lib.hid (D.out.trans (dW.mono D.out.size)); clear dW c0 c5 c6; have c1 : W3.cell? ⟨w.heap.size, 1, none⟩ = some (.int .i64 i.rd) := HB.out.cell 1; have c2 : W3.cell? ⟨w.heap.size, 2, none⟩ = some (.int .i64 i.rs1) := HB.out.cell 2; have c3 : W3.cell? ⟨w.heap.size, 3, none⟩ = some (.int .i64 i.rs2) := HB.out.cell 3; have c4 : W3.cell? ⟨w.heap.size, 4, none⟩ = some (.int .i64 i.imm) := HB.out.cell 4)
        | (go_at_call 37; refine (N4.out _).mono ?_; clear N4; rintro e V ⟨rfl, dW⟩; replace HB := Lib.hid (HB.out.below dW); replace D := Lib.hid (D.out.trans (dW.mono D.out.size)); clear dW c1 c2 c3 c4; have c1 : V.cell? ⟨w.heap.size, 1, none⟩ = some (.int .i64 i.rd) := HB.out.cell 1; have c2 : V.cell? ⟨w.heap.size, 2, none⟩ = some (.int .i64 i.rs1) := HB.out.cell 2; have c3 : V.cell? ⟨w.heap.size, 3, none⟩ = some (.int .i64 i.rs2) := HB.out.cell 3; have c4 : V.cell? ⟨w.heap.size, 4, none⟩ = some (.int .i64 i.imm) := HB.out.cell 4))
      go_ret
      exact ⟨by rw [ht.out]; rfl, D.out⟩
    · subst hcs
      obtain ⟨rfl, rfl⟩ := hna (by decide)
      obtain rfl : nm = s0 := by rw [← hs0.out]; simp [sufL]
      clear hs0
      have ht : textL i = nm := by rw [htx]; simp [fldL, hasRd, hasRs1, hasRs2, hasImm]
      clear htx
      have ht := Lib.hid ht
      go_wp2_with (first
        | (go_at_call 36; refine (HR.out _).mono ?_; clear HR; rintro e W3 ⟨rfl, dW⟩; replace HB := Lib.hid (HB.out.below dW); replace D := Lib.hid (D.out.trans (dW.mono D.out.size)); clear dW c0 c5 c6; have c1 : W3.cell? ⟨w.heap.size, 1, none⟩ = some (.int .i64 i.rd) := HB.out.cell 1; have c2 : W3.cell? ⟨w.heap.size, 2, none⟩ = some (.int .i64 i.rs1) := HB.out.cell 2; have c3 : W3.cell? ⟨w.heap.size, 3, none⟩ = some (.int .i64 i.rs2) := HB.out.cell 3; have c4 : W3.cell? ⟨w.heap.size, 4, none⟩ = some (.int .i64 i.imm) := HB.out.cell 4))
      go_ret
      exact ⟨by rw [ht.out]; rfl, D.out⟩
    · subst hcs
      have ht : textL i = ((((s0 ++ [32, 120]) ++ Lib.itoa i.rd) ++ [32, 120]) ++ Lib.itoa i.rs1) := by rw [htx]; simp [fldL, hasRd, hasRs1, hasRs2, hasImm]
      clear htx
      have e1 := str_cat s0 [32, 120]
      have g1 := str_cat (s0 ++ [32, 120]) (Lib.itoa i.rd)
      have l1 : (s0 ++ [32, 120]).length ≤ 16 := by simp only [List.length_append, List.length_cons, List.length_nil]; omega
      have m1 : ((s0 ++ [32, 120]) ++ Lib.itoa i.rd).length ≤ 37 := by rw [List.length_append]; omega
      generalize hz1 : (s0 ++ [32, 120]) ++ Lib.itoa i.rd = s1 at *
      clear hz1
      generalize s0 ++ [32, 120] = u1 at *
      have e2 := str_cat s1 [32, 120]
      have g2 := str_cat (s1 ++ [32, 120]) (Lib.itoa i.rs1)
      have l2 : (s1 ++ [32, 120]).length ≤ 39 := by simp only [List.length_append, List.length_cons, List.length_nil]; omega
      have m2 : ((s1 ++ [32, 120]) ++ Lib.itoa i.rs1).length ≤ 60 := by rw [List.length_append]; omega
      generalize hz2 : (s1 ++ [32, 120]) ++ Lib.itoa i.rs1 = s2 at *
      clear hz2
      generalize s1 ++ [32, 120] = u2 at *
      have ht := Lib.hid ht
      cases a5 <;> cases a6
      · obtain rfl : nm = s0 := by rw [← hs0.out]; simp [sufL]
        clear hs0
        go_wp2_with (first
          | (go_at_call 36; refine (HR.out _).mono ?_; clear HR; rintro e W3 ⟨rfl, dW⟩; replace HB := Lib.hid (HB.out.below dW); replace D := Lib.hid (D.out.trans (dW.mono D.out.size)); clear dW c0 c5 c6; have c1 : W3.cell? ⟨w.heap.size, 1, none⟩ = some (.int .i64 i.rd) := HB.out.cell 1; have c2 : W3.cell? ⟨w.heap.size, 2, none⟩ = some (.int .i64 i.rs1) := HB.out.cell 2; have c3 : W3.cell? ⟨w.heap.size, 3, none⟩ = some (.int .i64 i.rs2) := HB.out.cell 3; have c4 : W3.cell? ⟨w.heap.size, 4, none⟩ = some (.int .i64 i.imm) := HB.out.cell 4)
          | (go_at_call 37; refine (N1.out _).mono ?_; clear N1; rintro e V ⟨rfl, dW⟩; replace HB := Lib.hid (HB.out.below dW); replace D := Lib.hid (D.out.trans (dW.mono D.out.size)); clear dW c1 c2 c3 c4; have c1 : V.cell? ⟨w.heap.size, 1, none⟩ = some (.int .i64 i.rd) := HB.out.cell 1; have c2 : V.cell? ⟨w.heap.size, 2, none⟩ = some (.int .i64 i.rs1) := HB.out.cell 2; have c3 : V.cell? ⟨w.heap.size, 3, none⟩ = some (.int .i64 i.rs2) := HB.out.cell 3; have c4 : V.cell? ⟨w.heap.size, 4, none⟩ = some (.int .i64 i.imm) := HB.out.cell 4)
          | (go_at_call 37; refine (N2.out _).mono ?_; clear N2; rintro e V ⟨rfl, dW⟩; replace HB := Lib.hid (HB.out.below dW); replace D := Lib.hid (D.out.trans (dW.mono D.out.size)); clear dW c1 c2 c3 c4; have c1 : V.cell? ⟨w.heap.size, 1, none⟩ = some (.int .i64 i.rd) := HB.out.cell 1; have c2 : V.cell? ⟨w.heap.size, 2, none⟩ = some (.int .i64 i.rs1) := HB.out.cell 2; have c3 : V.cell? ⟨w.heap.size, 3, none⟩ = some (.int .i64 i.rs2) := HB.out.cell 3; have c4 : V.cell? ⟨w.heap.size, 4, none⟩ = some (.int .i64 i.imm) := HB.out.cell 4))
        go_ret
        exact ⟨by rw [ht.out]; rfl, D.out⟩
      · have gS : (⟨nm.toArray⟩ : ByteArray) ++ ⟨#[46, 114, 108]⟩ = ⟨s0.toArray⟩ := by rw [← hs0.out]; exact str_cat nm [46, 114, 108]
        go_wp2_with (first
          | (go_at_call 36; refine (HR.out _).mono ?_; clear HR; rintro e W3 ⟨rfl, dW⟩; replace HB := Lib.hid (HB.out.below dW); replace D := Lib.hid (D.out.trans (dW.mono D.out.size)); clear dW c0 c5 c6; have c1 : W3.cell? ⟨w.heap.size, 1, none⟩ = some (.int .i64 i.rd) := HB.out.cell 1; have c2 : W3.cell? ⟨w.heap.size, 2, none⟩ = some (.int .i64 i.rs1) := HB.out.cell 2; have c3 : W3.cell? ⟨w.heap.size, 3, none⟩ = some (.int .i64 i.rs2) := HB.out.cell 3; have c4 : W3.cell? ⟨w.heap.size, 4, none⟩ = some (.int .i64 i.imm) := HB.out.cell 4)
          | (go_at_call 37; refine (N1.out _).mono ?_; clear N1; rintro e V ⟨rfl, dW⟩; replace HB := Lib.hid (HB.out.below dW); replace D := Lib.hid (D.out.trans (dW.mono D.out.size)); clear dW c1 c2 c3 c4; have c1 : V.cell? ⟨w.heap.size, 1, none⟩ = some (.int .i64 i.rd) := HB.out.cell 1; have c2 : V.cell? ⟨w.heap.size, 2, none⟩ = some (.int .i64 i.rs1) := HB.out.cell 2; have c3 : V.cell? ⟨w.heap.size, 3, none⟩ = some (.int .i64 i.rs2) := HB.out.cell 3; have c4 : V.cell? ⟨w.heap.size, 4, none⟩ = some (.int .i64 i.imm) := HB.out.cell 4)
          | (go_at_call 37; refine (N2.out _).mono ?_; clear N2; rintro e V ⟨rfl, dW⟩; replace HB := Lib.hid (HB.out.below dW); replace D := Lib.hid (D.out.trans (dW.mono D.out.size)); clear dW c1 c2 c3 c4; have c1 : V.cell? ⟨w.heap.size, 1, none⟩ = some (.int .i64 i.rd) := HB.out.cell 1; have c2 : V.cell? ⟨w.heap.size, 2, none⟩ = some (.int .i64 i.rs1) := HB.out.cell 2; have c3 : V.cell? ⟨w.heap.size, 3, none⟩ = some (.int .i64 i.rs2) := HB.out.cell 3; have c4 : V.cell? ⟨w.heap.size, 4, none⟩ = some (.int .i64 i.imm) := HB.out.cell 4))
        go_ret
        exact ⟨by rw [ht.out]; rfl, D.out⟩
      · have gS : (⟨nm.toArray⟩ : ByteArray) ++ ⟨#[46, 97, 113]⟩ = ⟨s0.toArray⟩ := by rw [← hs0.out]; exact str_cat nm [46, 97, 113]
        go_wp2_with (first
          | (go_at_call 36; refine (HR.out _).mono ?_; clear HR; rintro e W3 ⟨rfl, dW⟩; replace HB := Lib.hid (HB.out.below dW); replace D := Lib.hid (D.out.trans (dW.mono D.out.size)); clear dW c0 c5 c6; have c1 : W3.cell? ⟨w.heap.size, 1, none⟩ = some (.int .i64 i.rd) := HB.out.cell 1; have c2 : W3.cell? ⟨w.heap.size, 2, none⟩ = some (.int .i64 i.rs1) := HB.out.cell 2; have c3 : W3.cell? ⟨w.heap.size, 3, none⟩ = some (.int .i64 i.rs2) := HB.out.cell 3; have c4 : W3.cell? ⟨w.heap.size, 4, none⟩ = some (.int .i64 i.imm) := HB.out.cell 4)
          | (go_at_call 37; refine (N1.out _).mono ?_; clear N1; rintro e V ⟨rfl, dW⟩; replace HB := Lib.hid (HB.out.below dW); replace D := Lib.hid (D.out.trans (dW.mono D.out.size)); clear dW c1 c2 c3 c4; have c1 : V.cell? ⟨w.heap.size, 1, none⟩ = some (.int .i64 i.rd) := HB.out.cell 1; have c2 : V.cell? ⟨w.heap.size, 2, none⟩ = some (.int .i64 i.rs1) := HB.out.cell 2; have c3 : V.cell? ⟨w.heap.size, 3, none⟩ = some (.int .i64 i.rs2) := HB.out.cell 3; have c4 : V.cell? ⟨w.heap.size, 4, none⟩ = some (.int .i64 i.imm) := HB.out.cell 4)
          | (go_at_call 37; refine (N2.out _).mono ?_; clear N2; rintro e V ⟨rfl, dW⟩; replace HB := Lib.hid (HB.out.below dW); replace D := Lib.hid (D.out.trans (dW.mono D.out.size)); clear dW c1 c2 c3 c4; have c1 : V.cell? ⟨w.heap.size, 1, none⟩ = some (.int .i64 i.rd) := HB.out.cell 1; have c2 : V.cell? ⟨w.heap.size, 2, none⟩ = some (.int .i64 i.rs1) := HB.out.cell 2; have c3 : V.cell? ⟨w.heap.size, 3, none⟩ = some (.int .i64 i.rs2) := HB.out.cell 3; have c4 : V.cell? ⟨w.heap.size, 4, none⟩ = some (.int .i64 i.imm) := HB.out.cell 4))
        go_ret
        exact ⟨by rw [ht.out]; rfl, D.out⟩
      · have gS : (⟨nm.toArray⟩ : ByteArray) ++ ⟨#[46, 97, 113, 114, 108]⟩ = ⟨s0.toArray⟩ := by rw [← hs0.out]; exact str_cat nm [46, 97, 113, 114, 108]
        go_wp2_with (first
          | (go_at_call 36; refine (HR.out _).mono ?_; clear HR; rintro e W3 ⟨rfl, dW⟩; replace HB := Lib.hid (HB.out.below dW); replace D := Lib.hid (D.out.trans (dW.mono D.out.size)); clear dW c0 c5 c6; have c1 : W3.cell? ⟨w.heap.size, 1, none⟩ = some (.int .i64 i.rd) := HB.out.cell 1; have c2 : W3.cell? ⟨w.heap.size, 2, none⟩ = some (.int .i64 i.rs1) := HB.out.cell 2; have c3 : W3.cell? ⟨w.heap.size, 3, none⟩ = some (.int .i64 i.rs2) := HB.out.cell 3; have c4 : W3.cell? ⟨w.heap.size, 4, none⟩ = some (.int .i64 i.imm) := HB.out.cell 4)
          | (go_at_call 37; refine (N1.out _).mono ?_; clear N1; rintro e V ⟨rfl, dW⟩; replace HB := Lib.hid (HB.out.below dW); replace D := Lib.hid (D.out.trans (dW.mono D.out.size)); clear dW c1 c2 c3 c4; have c1 : V.cell? ⟨w.heap.size, 1, none⟩ = some (.int .i64 i.rd) := HB.out.cell 1; have c2 : V.cell? ⟨w.heap.size, 2, none⟩ = some (.int .i64 i.rs1) := HB.out.cell 2; have c3 : V.cell? ⟨w.heap.size, 3, none⟩ = some (.int .i64 i.rs2) := HB.out.cell 3; have c4 : V.cell? ⟨w.heap.size, 4, none⟩ = some (.int .i64 i.imm) := HB.out.cell 4)
          | (go_at_call 37; refine (N2.out _).mono ?_; clear N2; rintro e V ⟨rfl, dW⟩; replace HB := Lib.hid (HB.out.below dW); replace D := Lib.hid (D.out.trans (dW.mono D.out.size)); clear dW c1 c2 c3 c4; have c1 : V.cell? ⟨w.heap.size, 1, none⟩ = some (.int .i64 i.rd) := HB.out.cell 1; have c2 : V.cell? ⟨w.heap.size, 2, none⟩ = some (.int .i64 i.rs1) := HB.out.cell 2; have c3 : V.cell? ⟨w.heap.size, 3, none⟩ = some (.int .i64 i.rs2) := HB.out.cell 3; have c4 : V.cell? ⟨w.heap.size, 4, none⟩ = some (.int .i64 i.imm) := HB.out.cell 4))
        go_ret
        exact ⟨by rw [ht.out]; rfl, D.out⟩
    · subst hcs
      have ht : textL i = ((((((s0 ++ [32, 120]) ++ Lib.itoa i.rd) ++ [32, 120]) ++ Lib.itoa i.rs1) ++ [32, 120]) ++ Lib.itoa i.rs2) := by rw [htx]; simp [fldL, hasRd, hasRs1, hasRs2, hasImm]
      clear htx
      have e1 := str_cat s0 [32, 120]
      have g1 := str_cat (s0 ++ [32, 120]) (Lib.itoa i.rd)
      have l1 : (s0 ++ [32, 120]).length ≤ 16 := by simp only [List.length_append, List.length_cons, List.length_nil]; omega
      have m1 : ((s0 ++ [32, 120]) ++ Lib.itoa i.rd).length ≤ 37 := by rw [List.length_append]; omega
      generalize hz1 : (s0 ++ [32, 120]) ++ Lib.itoa i.rd = s1 at *
      clear hz1
      generalize s0 ++ [32, 120] = u1 at *
      have e2 := str_cat s1 [32, 120]
      have g2 := str_cat (s1 ++ [32, 120]) (Lib.itoa i.rs1)
      have l2 : (s1 ++ [32, 120]).length ≤ 39 := by simp only [List.length_append, List.length_cons, List.length_nil]; omega
      have m2 : ((s1 ++ [32, 120]) ++ Lib.itoa i.rs1).length ≤ 60 := by rw [List.length_append]; omega
      generalize hz2 : (s1 ++ [32, 120]) ++ Lib.itoa i.rs1 = s2 at *
      clear hz2
      generalize s1 ++ [32, 120] = u2 at *
      have e3 := str_cat s2 [32, 120]
      have g3 := str_cat (s2 ++ [32, 120]) (Lib.itoa i.rs2)
      have l3 : (s2 ++ [32, 120]).length ≤ 62 := by simp only [List.length_append, List.length_cons, List.length_nil]; omega
      have m3 : ((s2 ++ [32, 120]) ++ Lib.itoa i.rs2).length ≤ 83 := by rw [List.length_append]; omega
      generalize hz3 : (s2 ++ [32, 120]) ++ Lib.itoa i.rs2 = s3 at *
      clear hz3
      generalize s2 ++ [32, 120] = u3 at *
      have ht := Lib.hid ht
      cases a5 <;> cases a6
      · obtain rfl : nm = s0 := by rw [← hs0.out]; simp [sufL]
        clear hs0
        go_wp2_with (first
          | (go_at_call 36; refine (HR.out _).mono ?_; clear HR; rintro e W3 ⟨rfl, dW⟩; replace HB := Lib.hid (HB.out.below dW); replace D := Lib.hid (D.out.trans (dW.mono D.out.size)); clear dW c0 c5 c6; have c1 : W3.cell? ⟨w.heap.size, 1, none⟩ = some (.int .i64 i.rd) := HB.out.cell 1; have c2 : W3.cell? ⟨w.heap.size, 2, none⟩ = some (.int .i64 i.rs1) := HB.out.cell 2; have c3 : W3.cell? ⟨w.heap.size, 3, none⟩ = some (.int .i64 i.rs2) := HB.out.cell 3; have c4 : W3.cell? ⟨w.heap.size, 4, none⟩ = some (.int .i64 i.imm) := HB.out.cell 4)
          | (go_at_call 37; refine (N1.out _).mono ?_; clear N1; rintro e V ⟨rfl, dW⟩; replace HB := Lib.hid (HB.out.below dW); replace D := Lib.hid (D.out.trans (dW.mono D.out.size)); clear dW c1 c2 c3 c4; have c1 : V.cell? ⟨w.heap.size, 1, none⟩ = some (.int .i64 i.rd) := HB.out.cell 1; have c2 : V.cell? ⟨w.heap.size, 2, none⟩ = some (.int .i64 i.rs1) := HB.out.cell 2; have c3 : V.cell? ⟨w.heap.size, 3, none⟩ = some (.int .i64 i.rs2) := HB.out.cell 3; have c4 : V.cell? ⟨w.heap.size, 4, none⟩ = some (.int .i64 i.imm) := HB.out.cell 4)
          | (go_at_call 37; refine (N2.out _).mono ?_; clear N2; rintro e V ⟨rfl, dW⟩; replace HB := Lib.hid (HB.out.below dW); replace D := Lib.hid (D.out.trans (dW.mono D.out.size)); clear dW c1 c2 c3 c4; have c1 : V.cell? ⟨w.heap.size, 1, none⟩ = some (.int .i64 i.rd) := HB.out.cell 1; have c2 : V.cell? ⟨w.heap.size, 2, none⟩ = some (.int .i64 i.rs1) := HB.out.cell 2; have c3 : V.cell? ⟨w.heap.size, 3, none⟩ = some (.int .i64 i.rs2) := HB.out.cell 3; have c4 : V.cell? ⟨w.heap.size, 4, none⟩ = some (.int .i64 i.imm) := HB.out.cell 4)
          | (go_at_call 37; refine (N3.out _).mono ?_; clear N3; rintro e V ⟨rfl, dW⟩; replace HB := Lib.hid (HB.out.below dW); replace D := Lib.hid (D.out.trans (dW.mono D.out.size)); clear dW c1 c2 c3 c4; have c1 : V.cell? ⟨w.heap.size, 1, none⟩ = some (.int .i64 i.rd) := HB.out.cell 1; have c2 : V.cell? ⟨w.heap.size, 2, none⟩ = some (.int .i64 i.rs1) := HB.out.cell 2; have c3 : V.cell? ⟨w.heap.size, 3, none⟩ = some (.int .i64 i.rs2) := HB.out.cell 3; have c4 : V.cell? ⟨w.heap.size, 4, none⟩ = some (.int .i64 i.imm) := HB.out.cell 4))
        go_ret
        exact ⟨by rw [ht.out]; rfl, D.out⟩
      · have gS : (⟨nm.toArray⟩ : ByteArray) ++ ⟨#[46, 114, 108]⟩ = ⟨s0.toArray⟩ := by rw [← hs0.out]; exact str_cat nm [46, 114, 108]
        go_wp2_with (first
          | (go_at_call 36; refine (HR.out _).mono ?_; clear HR; rintro e W3 ⟨rfl, dW⟩; replace HB := Lib.hid (HB.out.below dW); replace D := Lib.hid (D.out.trans (dW.mono D.out.size)); clear dW c0 c5 c6; have c1 : W3.cell? ⟨w.heap.size, 1, none⟩ = some (.int .i64 i.rd) := HB.out.cell 1; have c2 : W3.cell? ⟨w.heap.size, 2, none⟩ = some (.int .i64 i.rs1) := HB.out.cell 2; have c3 : W3.cell? ⟨w.heap.size, 3, none⟩ = some (.int .i64 i.rs2) := HB.out.cell 3; have c4 : W3.cell? ⟨w.heap.size, 4, none⟩ = some (.int .i64 i.imm) := HB.out.cell 4)
          | (go_at_call 37; refine (N1.out _).mono ?_; clear N1; rintro e V ⟨rfl, dW⟩; replace HB := Lib.hid (HB.out.below dW); replace D := Lib.hid (D.out.trans (dW.mono D.out.size)); clear dW c1 c2 c3 c4; have c1 : V.cell? ⟨w.heap.size, 1, none⟩ = some (.int .i64 i.rd) := HB.out.cell 1; have c2 : V.cell? ⟨w.heap.size, 2, none⟩ = some (.int .i64 i.rs1) := HB.out.cell 2; have c3 : V.cell? ⟨w.heap.size, 3, none⟩ = some (.int .i64 i.rs2) := HB.out.cell 3; have c4 : V.cell? ⟨w.heap.size, 4, none⟩ = some (.int .i64 i.imm) := HB.out.cell 4)
          | (go_at_call 37; refine (N2.out _).mono ?_; clear N2; rintro e V ⟨rfl, dW⟩; replace HB := Lib.hid (HB.out.below dW); replace D := Lib.hid (D.out.trans (dW.mono D.out.size)); clear dW c1 c2 c3 c4; have c1 : V.cell? ⟨w.heap.size, 1, none⟩ = some (.int .i64 i.rd) := HB.out.cell 1; have c2 : V.cell? ⟨w.heap.size, 2, none⟩ = some (.int .i64 i.rs1) := HB.out.cell 2; have c3 : V.cell? ⟨w.heap.size, 3, none⟩ = some (.int .i64 i.rs2) := HB.out.cell 3; have c4 : V.cell? ⟨w.heap.size, 4, none⟩ = some (.int .i64 i.imm) := HB.out.cell 4)
          | (go_at_call 37; refine (N3.out _).mono ?_; clear N3; rintro e V ⟨rfl, dW⟩; replace HB := Lib.hid (HB.out.below dW); replace D := Lib.hid (D.out.trans (dW.mono D.out.size)); clear dW c1 c2 c3 c4; have c1 : V.cell? ⟨w.heap.size, 1, none⟩ = some (.int .i64 i.rd) := HB.out.cell 1; have c2 : V.cell? ⟨w.heap.size, 2, none⟩ = some (.int .i64 i.rs1) := HB.out.cell 2; have c3 : V.cell? ⟨w.heap.size, 3, none⟩ = some (.int .i64 i.rs2) := HB.out.cell 3; have c4 : V.cell? ⟨w.heap.size, 4, none⟩ = some (.int .i64 i.imm) := HB.out.cell 4))
        go_ret
        exact ⟨by rw [ht.out]; rfl, D.out⟩
      · have gS : (⟨nm.toArray⟩ : ByteArray) ++ ⟨#[46, 97, 113]⟩ = ⟨s0.toArray⟩ := by rw [← hs0.out]; exact str_cat nm [46, 97, 113]
        go_wp2_with (first
          | (go_at_call 36; refine (HR.out _).mono ?_; clear HR; rintro e W3 ⟨rfl, dW⟩; replace HB := Lib.hid (HB.out.below dW); replace D := Lib.hid (D.out.trans (dW.mono D.out.size)); clear dW c0 c5 c6; have c1 : W3.cell? ⟨w.heap.size, 1, none⟩ = some (.int .i64 i.rd) := HB.out.cell 1; have c2 : W3.cell? ⟨w.heap.size, 2, none⟩ = some (.int .i64 i.rs1) := HB.out.cell 2; have c3 : W3.cell? ⟨w.heap.size, 3, none⟩ = some (.int .i64 i.rs2) := HB.out.cell 3; have c4 : W3.cell? ⟨w.heap.size, 4, none⟩ = some (.int .i64 i.imm) := HB.out.cell 4)
          | (go_at_call 37; refine (N1.out _).mono ?_; clear N1; rintro e V ⟨rfl, dW⟩; replace HB := Lib.hid (HB.out.below dW); replace D := Lib.hid (D.out.trans (dW.mono D.out.size)); clear dW c1 c2 c3 c4; have c1 : V.cell? ⟨w.heap.size, 1, none⟩ = some (.int .i64 i.rd) := HB.out.cell 1; have c2 : V.cell? ⟨w.heap.size, 2, none⟩ = some (.int .i64 i.rs1) := HB.out.cell 2; have c3 : V.cell? ⟨w.heap.size, 3, none⟩ = some (.int .i64 i.rs2) := HB.out.cell 3; have c4 : V.cell? ⟨w.heap.size, 4, none⟩ = some (.int .i64 i.imm) := HB.out.cell 4)
          | (go_at_call 37; refine (N2.out _).mono ?_; clear N2; rintro e V ⟨rfl, dW⟩; replace HB := Lib.hid (HB.out.below dW); replace D := Lib.hid (D.out.trans (dW.mono D.out.size)); clear dW c1 c2 c3 c4; have c1 : V.cell? ⟨w.heap.size, 1, none⟩ = some (.int .i64 i.rd) := HB.out.cell 1; have c2 : V.cell? ⟨w.heap.size, 2, none⟩ = some (.int .i64 i.rs1) := HB.out.cell 2; have c3 : V.cell? ⟨w.heap.size, 3, none⟩ = some (.int .i64 i.rs2) := HB.out.cell 3; have c4 : V.cell? ⟨w.heap.size, 4, none⟩ = some (.int .i64 i.imm) := HB.out.cell 4)
          | (go_at_call 37; refine (N3.out _).mono ?_; clear N3; rintro e V ⟨rfl, dW⟩; replace HB := Lib.hid (HB.out.below dW); replace D := Lib.hid (D.out.trans (dW.mono D.out.size)); clear dW c1 c2 c3 c4; have c1 : V.cell? ⟨w.heap.size, 1, none⟩ = some (.int .i64 i.rd) := HB.out.cell 1; have c2 : V.cell? ⟨w.heap.size, 2, none⟩ = some (.int .i64 i.rs1) := HB.out.cell 2; have c3 : V.cell? ⟨w.heap.size, 3, none⟩ = some (.int .i64 i.rs2) := HB.out.cell 3; have c4 : V.cell? ⟨w.heap.size, 4, none⟩ = some (.int .i64 i.imm) := HB.out.cell 4))
        go_ret
        exact ⟨by rw [ht.out]; rfl, D.out⟩
      · have gS : (⟨nm.toArray⟩ : ByteArray) ++ ⟨#[46, 97, 113, 114, 108]⟩ = ⟨s0.toArray⟩ := by rw [← hs0.out]; exact str_cat nm [46, 97, 113, 114, 108]
        go_wp2_with (first
          | (go_at_call 36; refine (HR.out _).mono ?_; clear HR; rintro e W3 ⟨rfl, dW⟩; replace HB := Lib.hid (HB.out.below dW); replace D := Lib.hid (D.out.trans (dW.mono D.out.size)); clear dW c0 c5 c6; have c1 : W3.cell? ⟨w.heap.size, 1, none⟩ = some (.int .i64 i.rd) := HB.out.cell 1; have c2 : W3.cell? ⟨w.heap.size, 2, none⟩ = some (.int .i64 i.rs1) := HB.out.cell 2; have c3 : W3.cell? ⟨w.heap.size, 3, none⟩ = some (.int .i64 i.rs2) := HB.out.cell 3; have c4 : W3.cell? ⟨w.heap.size, 4, none⟩ = some (.int .i64 i.imm) := HB.out.cell 4)
          | (go_at_call 37; refine (N1.out _).mono ?_; clear N1; rintro e V ⟨rfl, dW⟩; replace HB := Lib.hid (HB.out.below dW); replace D := Lib.hid (D.out.trans (dW.mono D.out.size)); clear dW c1 c2 c3 c4; have c1 : V.cell? ⟨w.heap.size, 1, none⟩ = some (.int .i64 i.rd) := HB.out.cell 1; have c2 : V.cell? ⟨w.heap.size, 2, none⟩ = some (.int .i64 i.rs1) := HB.out.cell 2; have c3 : V.cell? ⟨w.heap.size, 3, none⟩ = some (.int .i64 i.rs2) := HB.out.cell 3; have c4 : V.cell? ⟨w.heap.size, 4, none⟩ = some (.int .i64 i.imm) := HB.out.cell 4)
          | (go_at_call 37; refine (N2.out _).mono ?_; clear N2; rintro e V ⟨rfl, dW⟩; replace HB := Lib.hid (HB.out.below dW); replace D := Lib.hid (D.out.trans (dW.mono D.out.size)); clear dW c1 c2 c3 c4; have c1 : V.cell? ⟨w.heap.size, 1, none⟩ = some (.int .i64 i.rd) := HB.out.cell 1; have c2 : V.cell? ⟨w.heap.size, 2, none⟩ = some (.int .i64 i.rs1) := HB.out.cell 2; have c3 : V.cell? ⟨w.heap.size, 3, none⟩ = some (.int .i64 i.rs2) := HB.out.cell 3; have c4 : V.cell? ⟨w.heap.size, 4, none⟩ = some (.int .i64 i.imm) := HB.out.cell 4)
          | (go_at_call 37; refine (N3.out _).mono ?_; clear N3; rintro e V ⟨rfl, dW⟩; replace HB := Lib.hid (HB.out.below dW); replace D := Lib.hid (D.out.trans (dW.mono D.out.size)); clear dW c1 c2 c3 c4; have c1 : V.cell? ⟨w.heap.size, 1, none⟩ = some (.int .i64 i.rd) := HB.out.cell 1; have c2 : V.cell? ⟨w.heap.size, 2, none⟩ = some (.int .i64 i.rs1) := HB.out.cell 2; have c3 : V.cell? ⟨w.heap.size, 3, none⟩ = some (.int .i64 i.rs2) := HB.out.cell 3; have c4 : V.cell? ⟨w.heap.size, 4, none⟩ = some (.int .i64 i.imm) := HB.out.cell 4))
        go_ret
        exact ⟨by rw [ht.out]; rfl, D.out⟩
end Go.Proofs.YtihcljaphajdfaaGreatDoor.Hand
