/- DERIVED. DERIVED. The reference's Lines and Read: the walks. -/
import Derived.Test.YtihcljaphajdfaaGreatDoorProg
import Derived.Test.YtihcljaphajdfaaGreatDoorMBits
import Derived.Test.YtihcljaphajdfaaGreatDoorMWalk
import Derived.Test.YtihcljaphajdfaaGreatDoorMTab
import Derived.Test.YtihcljaphajdfaaGreatDoorMInst
import Derived.Test.YtihcljaphajdfaaGreatDoorMDec
import Derived.Test.YtihcljaphajdfaaGreatDoorMDec2
import Derived.Test.YtihcljaphajdfaaGreatDoorMQTail
import Derived.Test.YtihcljaphajdfaaGreatDoorMArg
import Derived.Test.YtihcljaphajdfaaGreatDoorMRow
import Derived.Test.YtihcljaphajdfaaGreatDoorMOpen
import Derived.Test.YtihcljaphajdfaaGreatDoorMPart
import Derived.Test.YtihcljaphajdfaaGreatDoorMStore
import Derived.Test.YtihcljaphajdfaaGreatDoorMReg
import Derived.Test.YtihcljaphajdfaaGreatDoorMQTwo
import Derived.Test.YtihcljaphajdfaaGreatDoorMQTail
import Derived.Test.YtihcljaphajdfaaGreatDoorMQOne
import Derived.Test.YtihcljaphajdfaaGreatDoorMQPick
import Derived.Test.YtihcljaphajdfaaGreatDoorMReg
import Derived.Test.YtihcljaphajdfaaGreatDoorMStore
import Derived.Test.YtihcljaphajdfaaGreatDoorHR
import Derived.Test.YtihcljaphajdfaaGreatDoorPAllx2
import Derived.Test.YtihcljaphajdfaaGreatDoorPAllx4
import Derived.Test.YtihcljaphajdfaaGreatDoorPAllx8
import Derived.Test.YtihcljaphajdfaaGreatDoorPAllx9
import Derived.Test.YtihcljaphajdfaaGreatDoorPAllx10
import Derived.Below
import Derived.Deep.Draws
import Derived.Deep.AppendLies
import Derived.Maps.AppendAt
import Derived.OwnWalk
import Derived.Laws.BytesArg
import Derived.Laws.MakeOwn
import Derived.Laws.OwnMore
import Derived.Deep.OwnRows
import Derived.Tactics
import Derived.Lib.ConvBytes
import Derived.Laws.Slices
import Derived.WalkKit
import Derived.KernelRfl
import Derived.RowKit3
import Derived.Deep.LoopGhost
import Derived.Deep.QuietTactic
import Derived.BigQuiet
import Derived.WideLaws
import Derived.Deep.DeepCutAuto
import Derived.Deep.CutBlock
import Derived.Deep.RegionHeld3
import Derived.Laws.Rows
import Derived.Lib.AppendStr
import Derived.ArgAppend
import Derived.Laws.IdiomCopy
import Derived.OrdersHeld
import Derived.Laws.BitsLemmas
import Derived.Laws.Bits64
import Derived.RowKit
import Derived.Outline
import Derived.Handy
import Derived.Lib.Hide
import Derived.Deep.Light
import Derived.Laws.CopyOwn
import Derived.Lib.ItoaLen
import Derived.Deep.CutRange
import Derived.StillTail
import Derived.Shelf.RegionOpen
import Derived.Lib.QuietBelow
import Derived.Lib.AppendIntMem
import Derived.Laws.AppendOwnNone
import Derived.Shelf.Strings.Prefix
import Derived.Shelf.Strings.Split
import Derived.Shelf.Strings.Cut
import Derived.Shelf.Strings.Builder1
import Derived.Shelf.Strconv.AtoiAll
import Derived.Shelf.Strconv.Itoa3
import Derived.Ground.NamesProg
import Derived.Lib.AtoiTie
import Derived.Lib.AtoiErrMem
import Derived.Shelf.Vars
namespace Go.Proofs.YtihcljaphajdfaaGreatDoor.Hand
open Go Go.RowKit Go.Proofs.YtihcljaphajdfaaGreatDoor.M Go.Proofs.YtihcljaphajdfaaGreatDoor.PAll Go.Proofs.YtihcljaphajdfaaGreatDoorW.PrintWords
set_option linter.unusedVariables false
set_option linter.unusedSimpArgs false
attribute [local go_sem] Oper.semAt_some
set_option maxRecDepth 100000 in
set_option maxHeartbeats 4000000 in
theorem rParse_all (s : ByteArray) (w : World) : Calls Tryz.prog 13 #[.string s] w (ParsePost w (parseR s)) := by
  rw [← rparse_eq]
  by_cases hs : s.size ≤ 1000
  · exact rParse_any s w hs
  · have hr : rparse s = none := by unfold rparse; rw [if_pos (by omega)]
    rw [hr]
    have hb2 : (s.size : Int) > 100 := by omega
    have hb3 : 100 < s.size := by omega
    go_enter Tryz.func13, Tryz.ntmps13
    go_wp2_with (first
        | (refine wpList_store_row rfl 33 _ _ rfl w.heap.size (⟨0, 0, 0, 0, 0, false, false⟩ : Ins).cells rfl rfl 33 _ (Blk.new w _ _) ins_info (by kernel_rfl) (Ins.one _) ?_))
    exact rparse_end (Blk.new w _ _) ((Below.refl _ _).alloc (Nat.le_refl _) _) rfl rfl rfl rfl
set_option maxRecDepth 100000 in
set_option maxHeartbeats 4000000 in
theorem rLines_any (A : Option Addr) (n c : Nat) (l : List Ins) (w : World) (hl : l.length = n) (hn : n ≤ 1000000) (hr : InsRow w A l) (hi : ∀ i ∈ l, i.Ok) :
    Calls Tryz.prog 8 #[.slice A n c] w fun e w' => e = .returned (.string ⟨(linesL l).toArray⟩) ∧ Below w.heap.size w w' := by
  have HR := Lib.hid hr
  have HI := Lib.hid hi
  have hll := linesL_len l hi
  clear hr hi
  go_enter Tryz.func8, Tryz.ntmps8
  go_wp2_with fail
  go_loopw [3, 4] (fun x k wr => ∃ m : Nat, k = .int .i64 m ∧ m ≤ n ∧ x = .string ⟨(linesL (l.take m)).toArray⟩ ∧ Hid (Below w.heap.size w wr)) (fun _ k _ => n - (intOf k).toNat)
  case atStart => exact ⟨0, rfl, by omega, rfl, Lib.hid (Below.refl _ _)⟩
  case round =>
    obtain ⟨m, rfl, hm, rfl, D⟩ := hrel
    by_cases hlt : m < n
    · obtain ⟨ad, rfl, had, hc⟩ := (HR.out.below D.out) (by intro e; rw [e] at hl; simp at hl; omega)
      have hml : m < l.length := by omega
      have hcs := Lib.hid (hc m _ (List.getElem?_eq_getElem hml))
      have hok := HI.out _ (List.getElem_mem hml)
      have HT := Lib.hid fun (W : World) => rText_any l[m] hok W
      have hsn := Lib.hid (linesL_snoc l m hml)
      have hbl : (linesL (l.take m)).length ≤ 1001000000 := by
        have := linesL_len (l.take m) (fun i hi => HI.out i (List.mem_of_mem_take hi))
        have : (l.take m).length ≤ l.length := by rw [List.length_take]; omega
        omega
      have htl := textL_len l[m] hok
      clear hc
      generalize l[m] = i at *
      generalize linesL (l.take m) = b0 at *
      generalize hb1 : linesL (l.take (m + 1)) = b1 at *
      replace hb1 := Lib.hid hb1
      go_wp2_with (first | (refine wpList_load_at rfl 33 _ rfl (ad.add (m * 7)) rfl i.cells _ hcs.out Tryz.underlying33 rfl ins_info ?_) | (go_at_call 16; refine (HT.out _).mono ?_; clear HT; rintro e V ⟨rfl, dV⟩; replace D := Lib.hid (D.out.trans (dV.mono D.out.size)); clear dV))
      go_roundw
      case rel =>
        refine ⟨m + 1, by simp, by omega, ?_, D⟩
        rw [hb1.out, hsn.out]
        rw [show (⟨#[10]⟩ : ByteArray) = ⟨[10].toArray⟩ from rfl, str_cat, str_cat, List.append_assoc]
      case measure => simp [intOf]; omega
    · obtain rfl : m = n := by omega
      rw [← hl, List.take_length]
      go_wp2_with fail
      go_ret
      exact ⟨rfl, D.out⟩
theorem cut_last (a : List UInt8) (ha : ∀ x ∈ a, x ≠ 10) : Lib.cut a [10] = (a, [], false) := by
  have hi : Lib.index a [10] = -1 := by
    refine Lib.index_none ?_
    intro j hj
    cases h : Lib.occAt a [10] j with
    | false => rfl
    | true =>
      have h2 := (occ_ten _ _).1 h
      obtain ⟨hj, e⟩ := List.getElem?_eq_some_iff.1 h2
      exact absurd e (ha _ (List.getElem_mem hj))
  unfold Lib.cut
  rw [hi, if_neg (by omega)]
theorem append_ins {ops : Array Oper} {rest : List Oper} {o : Oper} {a : Act} {w : World} {Q : Exit → Act → World → Prop} (hgd : o.guard = none) (s x : Operand)
    (ho : o.op = .call { callee := .builtin .append, args := #[s, x], argTypes := #[22, 22] }) (base : Nat) (v : Value) (l : List Ins) (hs : a.eval s = v) (hown : OwnIns w base v l)
    (t : Ins) (g : Nat) (hx : a.eval x = .slice (some ⟨g, 0, none⟩) 1 1) (B : Blk w g t.cells 33) (hn : l.length ≤ 1000000) (hbase : base ≤ w.heap.size)
    (h : ∀ v' w', OwnIns w' base v' (l ++ [t]) → w.grownBy w' v.ownBlock → wpList Tryz.prog ops Q rest (a.put o.dst v') w') : wpList Tryz.prog ops Q (o :: rest) a w := by
  obtain ⟨i, z, hi, h1, h2, h3, h4⟩ := ins_infos
  have happ : (flatIns l) ++ t.cells.toList = flatIns (l ++ [t]) := by simp [flatIns]
  refine wpList_append_own w hgd s x 22 ho base 33 i z 7 i.bytes Tryz.underlying22 hi h1 h2 rfl h3 (by decide) v l.length (flatIns l) hs hown ⟨g, 0, none⟩ 1 1 t.cells.toList hx (by rw [Array.length_toList, Ins.len]) (fun j u hu => ?_) (fun u hu => ?_) (by unfold maxLen; omega) ?_ hbase (fun v' w' k1 k2 _ => h v' w' ?_ k2)
  · have := B.cell j
    rw [show (⟨g, 0, none⟩ : Addr).add j = ⟨g, j, none⟩ by simp [Addr.add]; omega]
    rw [this, ← Array.getElem?_toList]; exact hu
  · have := Ins.one t
    rw [Array.all_eq_true'] at this
    exact this u (by simpa using hu)
  · calc (l.length + 1) * i.bytes ≤ 1000001 * 1000 := Nat.mul_le_mul (by omega) h4
      _ ≤ 140737488355328 := by decide
  · unfold OwnIns
    rw [List.length_append, ← happ]
    exact k1
theorem ownIns_below {w w' : World} {B : Nat} {v : Value} {l : List Ins} (h : OwnIns w B v l) (d : Below w.heap.size w w') : OwnIns w' B v l := by
  refine World.ownsRow.kept h (grownN_of_below d) ?_
  cases v.ownBlock with
  | none => exact .inl rfl
  | some k => exact .inr (by simp)
set_option maxRecDepth 100000 in
set_option maxHeartbeats 4000000 in
theorem rRead_any (s : ByteArray) (w : World) (hs : s.size ≤ 1000000) : Calls Tryz.prog 6 #[.string s] w (ReadPost w (readR s.data.toList)) := by
  have hsl := Lib.hid (Lib.size_eq s)
  have HR := Lib.hid (show readR s.data.toList = readL (linesOf (s.data.toList.drop 0)) 0 [] from rfl)
  generalize hRR : readR s.data.toList = R at *
  replace hRR := Lib.hid hRR
  go_enter Tryz.func6, Tryz.ntmps6
  go_wp2_with fail
  go_loopw [5, 6, 7, 8] (fun v fr ln k wr => ∃ (i f n : Nat) (acc : List Ins), fr = .int .i64 f ∧ ln = .int .i64 ((n : Int) + 1) ∧ k = .int .i64 i ∧ i ≤ s.size ∧ f ≤ i ∧ n ≤ f ∧ Hid (∀ x ∈ (s.data.toList.drop f).take (i - f), x ≠ 10) ∧ Hid (R = readL (linesOf (s.data.toList.drop f)) n acc) ∧ acc.length ≤ f ∧ Hid (∀ i ∈ acc, i.Ok) ∧ Hid (OwnIns wr w.heap.size v acc) ∧ Hid (Below w.heap.size w wr)) (fun _ _ _ k _ => s.size - (intOf k).toNat)
  case atStart => exact ⟨0, 0, 0, [], rfl, rfl, rfl, Nat.zero_le _, Nat.le_refl _, Nat.le_refl _, Lib.hid (fun x hx => by cases hx), HR, Nat.le_refl _, Lib.hid (fun i hi => by cases hi), Lib.hid (World.ownsRow_nil _ _ _ _), Lib.hid (Below.refl _ _)⟩
  case round =>
    obtain ⟨i, f, n, acc, rfl, rfl, rfl, hi, hf, hnf, hpl, HR, hal, hok, HO, D⟩ := hrel
    obtain ⟨A, c, hv⟩ := ownIns_shape HO.out
    subst hv
    by_cases hlt : i < s.size
    · have hil : i < s.data.toList.length := by have := hsl.out; omega
      have hsplit : s.data.toList.drop f = (s.data.toList.drop f).take (i - f) ++ s.data.toList[i] :: s.data.toList.drop (i + 1) := by
        conv => lhs; rw [← List.take_append_drop (i - f) (s.data.toList.drop f)]
        rw [List.drop_drop, show f + (i - f) = i by omega, List.drop_eq_getElem_cons hil]
      have hbyte : ∀ h : i < s.size, (s[i]'h) = s.data.toList[i] := fun h => rfl
      by_cases hc : s.data.toList[i] = 10
      · have hln : linesOf (s.data.toList.drop f) = ((s.data.toList.drop f).take (i - f), true) :: linesOf (s.data.toList.drop (i + 1)) := by
          have hne : s.data.toList.drop f ≠ [] := by rw [hsplit]; simp
          rw [linesOf_cons hne]
          conv => lhs; rw [hsplit, hc]
          rw [cut_line _ _ hpl.out]
        have hex : s.extract f i = ⟨((s.data.toList.drop f).take (i - f)).toArray⟩ := by
          apply ByteArray.ext
          apply Array.toList_inj.1
          rw [Lib.extract_data]
        have HP := Lib.hid fun (V : World) => rParse_all (s.extract f i) V
        have hb10 : (((s[i]'hlt).toNat : Int) != 10) = false := by rw [hbyte hlt, hc]; rfl
        have hpo : ∀ j, parseR (s.extract f i) = some j → j.Ok := fun j h => parseR_Ok h
        have hyes := fun (j : Ins) (h : parseR (s.extract f i) = some j) => readL_yes ((s.data.toList.drop f).take (i - f)) (linesOf (s.data.toList.drop (i + 1))) n acc j (by rw [← hex]; exact h)
        have hno := fun (h : parseR (s.extract f i) = none) => readL_no ((s.data.toList.drop f).take (i - f)) true (linesOf (s.data.toList.drop (i + 1))) n acc (.inl (by rw [← hex]; exact h))
        rw [← hln] at hyes hno
        replace hno := Lib.hid hno
        replace hyes := Lib.hid hyes
        clear hex hsplit hc hbyte hln
        generalize hr : parseR (s.extract f i) = r at *
        obtain ⟨ci, en, hen, hcr⟩ := insEnd_two r
        unfold ParsePost at HP
        simp only [hen] at HP
        clear hen hr
        go_upto_region 9 with (first | (refine wpList_store_row rfl 33 _ _ rfl V.heap.size ci.cells rfl rfl 33 _ (Blk.new V _ _) ins_info (by kernel_rfl) (Ins.one _) ?_; (generalize hZ : World.setRow _ _ _ = Z)) | (go_at_call 13; refine (HP.out _).mono ?_; clear HP; rintro e V ⟨rfl, dV⟩))
        have BZ := Lib.hid (show Blk Z V.heap.size ci.cells 33 from hZ ▸ (Blk.new V _ 33).row ci.cells)
        have DZ : Below V.heap.size V Z := hZ ▸ below_row ((Below.refl _ _).alloc (Nat.le_refl _) _) (Nat.le_refl _) ci.cells
        have dz := dV.trans (DZ.mono dV.size)
        replace D := Lib.hid (D.out.trans (dz.mono D.out.size))
        replace HO := Lib.hid (ownIns_below HO.out dz)
        clear hZ DZ dV dz
        rcases hcr with ⟨rfl, rfl⟩ | ⟨rfl, rfl⟩
        · have hRE := Lib.hid (HR.out.trans (hyes.out ci rfl))
          have hci := hpo ci rfl
          have hw := D.out.size
          clear hyes hno hpo hb10
          have f0 : Z.cell? ⟨V.heap.size, 0, none⟩ = some (.int .i64 ci.op) := BZ.out.cell 0
          have f1 : Z.cell? ⟨V.heap.size, 1, none⟩ = some (.int .i64 ci.rd) := BZ.out.cell 1
          have f2 : Z.cell? ⟨V.heap.size, 2, none⟩ = some (.int .i64 ci.rs1) := BZ.out.cell 2
          have f3 : Z.cell? ⟨V.heap.size, 3, none⟩ = some (.int .i64 ci.rs2) := BZ.out.cell 3
          have f4 : Z.cell? ⟨V.heap.size, 4, none⟩ = some (.int .i64 ci.imm) := BZ.out.cell 4
          have f5 : Z.cell? ⟨V.heap.size, 5, none⟩ = some (.bool ci.aq) := BZ.out.cell 5
          have f6 : Z.cell? ⟨V.heap.size, 6, none⟩ = some (.bool ci.rl) := BZ.out.cell 6
          go_wp2_with (first
            | (at_builtin; (generalize hY : World.alloc Z _ = Y; obtain ⟨BY, dY, sY⟩ := arg_box (cs := ci.cells) hY; clear hY; have HN := Lib.hid (ownIns_below HO.out dY)); refine append_ins rfl _ _ rfl w.heap.size _ acc rfl HN.out ci Z.heap.size rfl BY (by omega) (by have := dY.size; omega) ?_; rintro v' W'' ho hG))
          have DY := D.out.trans (dY.mono D.out.size)
          have DW : Below w.heap.size w W'' := DY.grown hG DY.size (fun k e => (own_cells_blk HN.out e).1)
          go_roundw
          case rel =>
            refine ⟨i + 1, i + 1, n + 1, acc ++ [ci], by simp, by simp, by simp, by omega, Nat.le_refl _, by omega, Lib.hid ?_, hRE, by rw [List.length_append, List.length_singleton]; omega, Lib.hid ?_, Lib.hid ho, Lib.hid DW⟩
            · rw [Nat.sub_self, List.take_zero]; intro x hx; cases hx
            · intro j hj
              rw [List.mem_append, List.mem_singleton] at hj
              rcases hj with hj | rfl
              · exact hok.out j hj
              · exact hci
          case measure => simp [intOf]; omega
        · have hRE := Lib.hid (HR.out.trans (hno.out rfl))
          clear hyes hno hpo hb10
          go_wp2_with fail
          go_ret3
          refine ⟨none, 0, ?_, fun h => ?_, fun j hj => ?_, D.out⟩
          · rw [hRE.out]; rfl
          · rw [hRE.out] at h; exact absurd rfl h
          · rw [hRE.out] at hj; cases hj
      · have hpl2 := Lib.hid (show ∀ x ∈ (s.data.toList.drop f).take (i + 1 - f), x ≠ 10 by
          intro x hx
          rw [show i + 1 - f = (i - f) + 1 by omega, List.take_add_one, List.mem_append] at hx
          rcases hx with hx | hx
          · exact hpl.out x hx
          · rw [List.getElem?_drop, show f + (i - f) = i by omega, List.getElem?_eq_getElem hil] at hx
            simp at hx
            rw [hx]; exact hc)
        have hne : (((s.data.toList[i]).toNat : Int) != 10) = true := by
          simp only [bne_iff_ne, ne_eq]
          intro e
          exact hc (UInt8.toNat_inj.1 (Int.ofNat_inj.1 e))
        rw [← hbyte hlt] at hne
        clear hsplit hbyte hc
        go_wp2_with fail
        go_roundw
        case rel => exact ⟨i + 1, f, n, acc, rfl, rfl, by simp, by omega, by omega, hnf, hpl2, HR, hal, hok, HO, D⟩
        case measure => simp [intOf]; omega
    · obtain rfl : i = s.size := by omega
      have htk : (s.data.toList.drop f).take (s.size - f) = s.data.toList.drop f := by rw [List.take_of_length_le]; rw [List.length_drop]; have := hsl.out; omega
      by_cases hlf : f < s.size
      · have hdn : s.data.toList.drop f ≠ [] := by intro e; have := congrArg List.length e; rw [List.length_drop] at this; simp at this; have := hsl.out; omega
        have hRE := Lib.hid (show R = ([], n + 1, 30) by
          have hp := hpl.out
          rw [htk] at hp
          rw [HR.out, linesOf_cons hdn, cut_last _ hp]
          exact readL_no _ _ _ _ _ (.inr rfl))
        clear htk hdn
        go_wp2_with fail
        go_ret3
        refine ⟨none, 0, ?_, fun h => ?_, fun j hj => ?_, D.out⟩
        · rw [hRE.out]; rfl
        · rw [hRE.out] at h; exact absurd rfl h
        · rw [hRE.out] at hj; cases hj
      · have hd : s.data.toList.drop f = [] := List.drop_of_length_le (by have := hsl.out; omega)
        have hRE := Lib.hid (show R = (acc, 0, 0) by
          rw [HR.out, hd, linesOf_nil]; rfl)
        clear htk hd
        go_wp2_with fail
        go_ret3
        refine ⟨A, c, ?_, ?_, ?_, D.out⟩
        · rw [hRE.out]; rfl
        · rw [hRE.out]; exact ownIns_row HO.out
        · rw [hRE.out]; exact hok.out
end Go.Proofs.YtihcljaphajdfaaGreatDoor.Hand
