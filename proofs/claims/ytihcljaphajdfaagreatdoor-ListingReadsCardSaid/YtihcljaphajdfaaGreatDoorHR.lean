/- DERIVED. DERIVED. The reference's Parse: the walk. -/
import Derived.Test.YtihcljaphajdfaaGreatDoorProg
import Derived.Test.YtihcljaphajdfaaGreatDoorMBits
import Derived.Test.YtihcljaphajdfaaGreatDoorMWalk
import Derived.Test.YtihcljaphajdfaaGreatDoorMTab
import Derived.Test.YtihcljaphajdfaaGreatDoorMInst
import Derived.Test.YtihcljaphajdfaaGreatDoorMDec
import Derived.Test.YtihcljaphajdfaaGreatDoorMDec2
import Derived.Test.YtihcljaphajdfaaGreatDoorMQTail
import Derived.Test.YtihcljaphajdfaaGreatDoorMArg
import Derived.Test.YtihcljaphajdfaaGreatDoorMRow
import Derived.Test.YtihcljaphajdfaaGreatDoorMOpen
import Derived.Test.YtihcljaphajdfaaGreatDoorMPart
import Derived.Test.YtihcljaphajdfaaGreatDoorMStore
import Derived.Test.YtihcljaphajdfaaGreatDoorMReg
import Derived.Test.YtihcljaphajdfaaGreatDoorMQTwo
import Derived.Test.YtihcljaphajdfaaGreatDoorMQTail
import Derived.Test.YtihcljaphajdfaaGreatDoorMQOne
import Derived.Test.YtihcljaphajdfaaGreatDoorMQPick
import Derived.Test.YtihcljaphajdfaaGreatDoorMReg
import Derived.Test.YtihcljaphajdfaaGreatDoorMStore
import Derived.Test.YtihcljaphajdfaaGreatDoorHQ
import Derived.Test.YtihcljaphajdfaaGreatDoorPAllx2
import Derived.Test.YtihcljaphajdfaaGreatDoorPAllx4
import Derived.Test.YtihcljaphajdfaaGreatDoorPAllx8
import Derived.Test.YtihcljaphajdfaaGreatDoorPAllx9
import Derived.Test.YtihcljaphajdfaaGreatDoorPAllx10
import Derived.Below
import Derived.Deep.Draws
import Derived.Deep.AppendLies
import Derived.Maps.AppendAt
import Derived.OwnWalk
import Derived.Laws.BytesArg
import Derived.Laws.MakeOwn
import Derived.Laws.OwnMore
import Derived.Deep.OwnRows
import Derived.Tactics
import Derived.Lib.ConvBytes
import Derived.Laws.Slices
import Derived.WalkKit
import Derived.KernelRfl
import Derived.RowKit3
import Derived.Deep.LoopGhost
import Derived.Deep.QuietTactic
import Derived.BigQuiet
import Derived.WideLaws
import Derived.Deep.DeepCutAuto
import Derived.Deep.CutBlock
import Derived.Deep.RegionHeld3
import Derived.Laws.Rows
import Derived.Lib.AppendStr
import Derived.ArgAppend
import Derived.Laws.IdiomCopy
import Derived.OrdersHeld
import Derived.Laws.BitsLemmas
import Derived.Laws.Bits64
import Derived.RowKit
import Derived.Outline
import Derived.Handy
import Derived.Lib.Hide
import Derived.Deep.Light
import Derived.Laws.CopyOwn
import Derived.Lib.ItoaLen
import Derived.Deep.CutRange
import Derived.StillTail
import Derived.Shelf.RegionOpen
import Derived.Lib.QuietBelow
import Derived.Lib.AppendIntMem
import Derived.Laws.AppendOwnNone
import Derived.Shelf.Strings.Prefix
import Derived.Shelf.Strings.Split
import Derived.Shelf.Strings.Cut
import Derived.Shelf.Strings.Builder1
import Derived.Shelf.Strconv.AtoiAll
import Derived.Shelf.Strconv.Itoa3
import Derived.Ground.NamesProg
import Derived.Lib.AtoiTie
import Derived.Lib.AtoiErrMem
import Derived.Shelf.Vars
namespace Go.Proofs.YtihcljaphajdfaaGreatDoor.Hand
open Go Go.RowKit Go.Proofs.YtihcljaphajdfaaGreatDoor.M Go.Proofs.YtihcljaphajdfaaGreatDoor.PAll Go.Proofs.YtihcljaphajdfaaGreatDoorW.PrintWords
set_option linter.unusedVariables false
set_option linter.unusedSimpArgs false
attribute [local go_sem] Oper.semAt_some
set_option maxRecDepth 100000 in
set_option maxHeartbeats 4000000 in
theorem named_any (op : Int) (s : ByteArray) (aq rl : Bool) (w : World) : Calls Tryz.prog 31 #[.int .i64 op, .string s, .bool aq, .bool rl] w fun e w' => e = .returned (.bool (headL op aq rl == s.data.toList)) ∧ Below w.heap.size w w' := by
  have HN := Lib.hid fun W => rName_any op W
  have hl := name_len op
  unfold headL sufL
  cases aq <;> cases rl
  all_goals
    go_enter Tryz.func31, Tryz.ntmps31
    go_wp2_with (go_at_call 35; refine (HN.out _).mono ?_; rintro e V ⟨rfl, dV⟩)
    go_ret
    refine ⟨congrArg (fun b => Ending.returned (Value.bool b)) (?_ : (_ : Bool) = _), dV⟩
    simp only [ByteArray.toList_eq, ByteArray.data_append, Array.toList_append]
theorem words_any (s : ByteArray) (w : World) (hs : s.size ≤ 1000) : Calls Tryz.prog 30 #[.string s] w fun e w' => (∃ A c, e = .returned (.slice A (wsOf s).length c) ∧ WordsAt w' A (wsOf s)) ∧ Below w.heap.size w w' := by
  obtain ⟨ws, h1, h2, _⟩ := words_f s hs
  obtain rfl := ws_unique h2
  refine (postbagref03_words.calls 1002 s _ w h1).mono ?_
  rintro e w' ⟨v, rfl, hR, d⟩
  obtain ⟨A, c, rfl, _, hC⟩ := Kd.R_reads hR
  exact ⟨⟨A, c, rfl, hC⟩, d⟩
theorem spl_len : ∀ l : List UInt8, (spl l).length ≤ l.length + 1
  | [] => Nat.le_refl _
  | c :: r => by
    have ih := spl_len r
    unfold spl
    split
    · rw [List.length_cons, List.length_cons]; omega
    · split
      · simp
      · rename_i e; rw [e] at ih; rw [List.length_cons] at ih ⊢; rw [List.length_cons]; omega
theorem ws_small (s : ByteArray) (hs : s.size ≤ 1000) : (∀ x ∈ wsOf s, x.size ≤ s.size) ∧ (wsOf s).length ≤ s.size + 1 := by
  obtain ⟨ws, _, h2, h3⟩ := words_f s hs
  obtain rfl := ws_unique h2
  refine ⟨h3, ?_⟩
  have := spl_len s.data.toList
  have hl := Lib.size_eq s
  unfold wsOf
  rw [List.length_map]; omega
theorem rparse_end {w W : World} {a : Act} {r : Option Ins} {i : Ins} {n : Int} (hB : Blk W w.heap.size (⟨0, 0, 0, 0, 0, false, false⟩ : Ins).cells 33) (H : Below w.heap.size w W) (hd : a.defers = []) (h2 : a.tmps.getD 2 undef = .pointer (some ⟨w.heap.size, 0, none⟩)) (h3 : a.tmps.getD 3 undef = .int .i64 n)
    (hr : insEnd r = (.agg i.cells, n)) : bodyPost Tryz.prog Tryz.f13 (ParsePost w r) .ret a (W.setRow w.heap.size i.cells) :=
  ⟨hd, _, M.results_cell_tmp (fn := Tryz.f13) (by kernel_rfl) a.tmps _ w.heap.size _ _ _ h2 (hB.row i.cells) Tryz.underlying33 rfl ins_info, by rw [h3, hr], below_row H (Nat.le_refl _) _⟩
theorem combo_at (j : Nat) (hj : j < 4) : ∃ aq rl, combos[j]? = some (aq, rl) ∧ ((j : Int) % 2 == 1) = aq ∧ decide ((j : Int) > 1) = rl := by
  obtain rfl | rfl | rfl | rfl : j = 0 ∨ j = 1 ∨ j = 2 ∨ j = 3 := by omega
  · exact ⟨false, false, rfl, rfl, rfl⟩
  · exact ⟨true, false, rfl, rfl, rfl⟩
  · exact ⟨false, true, rfl, rfl, rfl⟩
  · exact ⟨true, true, rfl, rfl, rfl⟩
theorem rcandI_Ok (op : Int) (h1 : 1 ≤ op) (h2 : op ≤ 87) (ws : List ByteArray) (aq rl : Bool) : (rcandI op ws aq rl).Ok := by
  have h : ∀ n, (rcandN op ws n).1.Ok := by
    intro n
    induction n with
    | zero => constructor <;> (unfold I64; dsimp only [rcandN]; omega)
    | succ n ih =>
      by_cases hc : hasB op n = true ∧ (rcandN op ws n).2 < ws.length
      · rw [rcandN_yes op ws n hc]; exact put_Ok ih n (valN_range _)
      · rw [rcandN_no op ws n hc]; exact ih
  have := h 4
  exact ⟨this.op, this.rd, this.rs1, this.rs2, this.imm⟩
theorem rcand_op (op : Int) (ws : List ByteArray) : (rcand op ws).op = op ∧ (rcand op ws).aq = false ∧ (rcand op ws).rl = false := by
  have h : ∀ n, (rcandN op ws n).1.op = op ∧ (rcandN op ws n).1.aq = false ∧ (rcandN op ws n).1.rl = false := by
    intro n
    induction n with
    | zero => exact ⟨rfl, rfl, rfl⟩
    | succ n ih =>
      by_cases hc : hasB op n = true ∧ (rcandN op ws n).2 < ws.length
      · rw [rcandN_yes op ws n hc]; unfold Ins.put; dsimp only; split <;> exact ih
      · rw [rcandN_no op ws n hc]; exact ih
  exact h 4
theorem cell_below' {W1 W : World} {ad : Addr} {ws : List ByteArray} {x : Value} (h : W1.cell? ad = some x) (d : Below W1.heap.size W1 W) (hC : WordsAt W1 (some ad) ws) : W.cell? ad = some x := by
  have hlt : ad.block < W1.heap.size := by
    apply Classical.byContradiction
    intro hn
    unfold World.cell? at h
    rw [Array.getElem?_eq_none (by omega)] at h
    cases h
  exact (d.cell (p := ad) hlt).trans h
set_option maxRecDepth 100000 in
set_option maxHeartbeats 4000000 in
theorem rParse_any (s : ByteArray) (w : World) (hs : s.size ≤ 1000) : Calls Tryz.prog 13 #[.string s] w (ParsePost w (rparse s)) := by
  have HW := Lib.hid fun W => words_any s W hs
  have hwl := wsOf_len s
  have hsx : ∀ x ∈ wsOf s, x.size ≤ 1000000 := by
    intro x hx
    have h := (ws_small s hs).1 x hx
    omega
  have hll : (wsOf s).length ≤ 1000000 := by have := (ws_small s hs).2; omega
  by_cases hb : s.size > 100
  · have hr : rparse s = none := by unfold rparse; rw [if_pos hb]
    rw [hr]
    clear HW hsx
    have hb2 : (s.size : Int) > 100 := by omega
    have hb3 : 100 < s.size := hb
    go_enter Tryz.func13, Tryz.ntmps13
    go_wp2_with (first
        | (refine wpList_store_row rfl 33 _ _ rfl w.heap.size (⟨0, 0, 0, 0, 0, false, false⟩ : Ins).cells rfl rfl 33 _ (Blk.new w _ _) ins_info (by kernel_rfl) (Ins.one _) ?_))
    exact rparse_end (Blk.new w _ _) ((Below.refl _ _).alloc (Nat.le_refl _) _) rfl rfl rfl rfl
  · have hr : rparse s = rfrom s (wsOf s) 0 := by unfold rparse; rw [if_neg hb]
    have hR := Lib.hid hr
    clear hr
    have hb3 : ¬ 100 < s.size := hb
    generalize rparse s = R at *
    go_enter Tryz.func13, Tryz.ntmps13
    go_upto_region 1 with fail
    generalize hX : World.alloc w _ = X
    obtain ⟨B, dX, sX⟩ := arg_box (cs := (⟨0, 0, 0, 0, 0, false, false⟩ : Ins).cells) hX
    clear hX
    have BH := Lib.hid B
    have DH := Lib.hid dX
    clear B dX
    go_wp2_with (go_at_call 30; refine (HW.out _).mono ?_; clear HW; rintro e W1 ⟨⟨A, c, rfl, hC⟩, d1⟩; replace BH := Lib.hid (BH.out.below d1); replace DH := Lib.hid (DH.out.trans (d1.mono DH.out.size)); have hC := Lib.hid hC; have hg1 : w.heap.size < W1.heap.size := BH.out.lt; clear d1)
    obtain ⟨ad, rfl, hc0⟩ := hC.out.cell 0 hwl
    rw [show ad.add 0 = ad from by simp [Addr.add]] at hc0
    go_loopw [5] (fun k wr => ∃ n : Nat, k = .int .i64 ((n : Int) + 1) ∧ n ≤ 87 ∧ Hid (R = rfrom s (wsOf s) n) ∧ Hid (Below W1.heap.size W1 wr)) (fun k _ => 88 - (intOf k).toNat)
    case atStart => exact ⟨0, rfl, by omega, hR, Lib.hid (Below.refl _ _)⟩
    case round =>
      obtain ⟨k, rfl, hk, hR, HO⟩ := hrel
      by_cases hlt : k < 87
      · replace hR := Lib.hid (show R = (rtry s (wsOf s) ((k : Int) + 1) 0).or (rfrom s (wsOf s) (k + 1)) by rw [hR.out, rfrom_step _ _ _ hlt])
        go_upto_region 8 with fail
        rw [show decide ((k : Int) + 1 ≤ 87) = true from decide_eq_true (by omega)]
        go_loopw [6] (fun j wr => ∃ n : Nat, j = .int .i64 n ∧ n ≤ 4 ∧ Hid (R = (rtry s (wsOf s) ((k : Int) + 1) n).or (rfrom s (wsOf s) (k + 1))) ∧ Hid (Below W1.heap.size W1 wr)) (fun j _ => 4 - (intOf j).toNat)
        case atStart => exact ⟨0, rfl, by omega, hR, HO⟩
        case round =>
          obtain ⟨j, rfl, hj, hR, HO⟩ := hrel
          by_cases hjl : j < 4
          · obtain ⟨aq, rl, hc, e1, e2⟩ := combo_at j hjl
            replace hR := Lib.hid (hR.out.trans (congrArg (·.or (rfrom s (wsOf s) (k + 1))) (rtry_step s (wsOf s) ((k : Int) + 1) j hc)))
            have HN := Lib.hid fun W => named_any ((k : Int) + 1) (wsOf s)[0] aq rl W
            have c0 := cell_below' hc0 HO.out hC.out
            have hhd : (wsOf s).headD ⟨#[]⟩ = (wsOf s)[0] := by
              rw [List.headD_eq_head?_getD, List.head?_eq_getElem?, List.getElem?_eq_getElem hwl]; rfl
            rw [hhd] at hR
            generalize (wsOf s)[0] = w0 at *
            by_cases hq : headL ((k : Int) + 1) aq rl = w0.data.toList
            · rw [if_pos hq] at hR
              have hnb : (headL ((k : Int) + 1) aq rl == w0.data.toList) = true := beq_iff_eq.2 hq
              rw [hnb] at HN
              have HTR := Lib.hid fun (W : World) (d : Below W1.heap.size W1 W) => try_any ((k : Int) + 1) (by omega) (by omega) (wsOf s) (some ad) c W (hC.out.below d) hll hsx
              have HTX := Lib.hid fun (W : World) => rText_any (rcandI ((k : Int) + 1) (wsOf s) aq rl) (rcandI_Ok _ (by omega) (by omega) _ _ _) W
              have hop := rcand_op ((k : Int) + 1) (wsOf s)
              have hci : (rcandI ((k : Int) + 1) (wsOf s) aq rl) = { rcand ((k : Int) + 1) (wsOf s) with aq := aq, rl := rl } := rfl
              generalize rcandI ((k : Int) + 1) (wsOf s) aq rl = ci at *
              generalize rcand ((k : Int) + 1) (wsOf s) = c1 at *
              clear hq hhd hnb hc
              go_upto_region 11 with (go_at_call 31; refine (HN.out _).mono ?_; clear HN; rintro e V ⟨rfl, dV⟩; replace HO := Lib.hid (HO.out.trans (dV.mono HO.out.size)); clear dV)
              go_upto_region 12 with (first | (refine wpList_store_row rfl 33 _ _ rfl V2.heap.size c1.cells rfl rfl 33 _ (Blk.new V2 _ _) ins_info (by kernel_rfl) (Ins.one _) ?_; (generalize hZ : World.setRow _ _ _ = Z)) | go_at_call 32; refine (HTR.out _ HO.out).mono ?_; clear HTR; rintro e V2 ⟨rfl, dV⟩; replace HO := Lib.hid (HO.out.trans (dV.mono HO.out.size)); clear dV)
              have BZ := Lib.hid (show Blk Z V2.heap.size c1.cells 33 from hZ ▸ (Blk.new V2 _ 33).row c1.cells)
              have DZ : Below V2.heap.size V2 Z := hZ ▸ below_row ((Below.refl _ _).alloc (Nat.le_refl _) _) (Nat.le_refl _) c1.cells
              have hgz : W1.heap.size ≤ V2.heap.size := HO.out.size
              replace HO := Lib.hid (HO.out.trans (DZ.mono HO.out.size))
              have hz1 := BZ.out.lt
              have hz2 := HO.out.size
              clear hZ DZ
              have f5 : Z.cell? ⟨V2.heap.size, 5, none⟩ = some (.bool c1.aq) := BZ.out.cell 5
              have fz5 := BZ.out.frozen 5
              go_upto_region 13 with fail
              generalize hZ : World.setCell Z _ _ = Z1
              have BZ1 := Lib.hid (show Blk Z1 V2.heap.size (c1.cells.setIfInBounds 5 (.bool aq)) 33 from hZ ▸ BZ.out.set 5 (.bool aq))
              replace HO := Lib.hid (show Below W1.heap.size W1 Z1 from hZ ▸ below_setc HO.out hgz 5 (.bool aq))
              clear hZ f5 fz5 BZ
              have f6 : Z1.cell? ⟨V2.heap.size, 6, none⟩ = some (.bool c1.rl) := BZ1.out.cell 6
              have fz6 := BZ1.out.frozen 6
              go_upto_region 14 with fail
              generalize hZ : World.setCell Z1 _ _ = Z2
              have BZ2 := Lib.hid (show Blk Z2 V2.heap.size ci.cells 33 by
                have h := hZ ▸ BZ1.out.set 6 (.bool rl)
                rw [hci]; exact h)
              replace HO := Lib.hid (show Below W1.heap.size W1 Z2 from hZ ▸ below_setc HO.out hgz 6 (.bool rl))
              clear hZ f6 fz6 BZ1 hci hop
              have hgw : w.heap.size ≤ W1.heap.size := by omega
              by_cases hte : (⟨(textL ci).toArray⟩ : ByteArray).toList = s.toList
              · have hsb : (textL ci == s.toList) = true := beq_iff_eq.2 (by rw [← hte, ByteArray.toList_eq])
                by_cases hse : s.toList = []
                · have hh := hit_no (i := ci) (.inl hse)
                  go_wp2_with (first
                    | (refine wpList_load_row rfl 33 _ rfl V2.heap.size rfl 33 _ _ _ BZ2.out Tryz.underlying33 rfl ins_info ?_)
                    | (go_at_call 16; refine (HTX.out _).mono ?_; clear HTX; rintro e V3 ⟨rfl, dV⟩; replace HO := Lib.hid (HO.out.trans (dV.mono HO.out.size)); clear dV))
                  go_roundw
                  case rel => exact ⟨j + 1, by simp, by omega, Lib.hid (by rw [hR.out, hh]; rfl), HO⟩
                  case measure => simp [intOf]; omega
                · have hh := hit_yes hse hte
                  have hsi : s.toList.isEmpty = false := by rw [List.isEmpty_eq_false_iff]; exact hse
                  have hR' := Lib.hid (show R = some ci by rw [hR.out, hh]; rfl)
                  clear hR hh
                  go_wp2_with (first
                    | (refine wpList_load_row rfl 33 _ rfl V2.heap.size rfl 33 _ _ _ BZ2.out Tryz.underlying33 rfl ins_info ?_)
                    | (refine wpList_store_row rfl 33 _ _ rfl w.heap.size ci.cells rfl rfl 33 _ (BH.out.below HO.out) ins_info (by kernel_rfl) ci.one ?_)
                    | (go_at_call 16; refine (HTX.out _).mono ?_; clear HTX; rintro e V3 ⟨rfl, dV⟩; replace HO := Lib.hid (HO.out.trans (dV.mono HO.out.size)); replace BZ2 := Lib.hid (BZ2.out.below dV); clear dV))
                  exact rparse_end (BH.out.below HO.out) (DH.out.trans (HO.out.mono hgw)) rfl rfl rfl (by rw [hR'.out]; rfl)
              · have hh := hit_no (s := s) (i := ci) (.inr hte)
                have hsb : (textL ci == s.toList) = false := beq_eq_false_iff_ne.2 (fun h => hte (by rw [ByteArray.toList_eq]; exact h))
                go_wp2_with (first
                  | (refine wpList_load_row rfl 33 _ rfl V2.heap.size rfl 33 _ _ _ BZ2.out Tryz.underlying33 rfl ins_info ?_)
                  | (go_at_call 16; refine (HTX.out _).mono ?_; clear HTX; rintro e V3 ⟨rfl, dV⟩; replace HO := Lib.hid (HO.out.trans (dV.mono HO.out.size)); clear dV))
                go_roundw
                case rel => exact ⟨j + 1, by simp, by omega, Lib.hid (by rw [hR.out, hh]; rfl), HO⟩
                case measure => simp [intOf]; omega
            · rw [if_neg hq] at hR
              have hnb : (headL ((k : Int) + 1) aq rl == w0.data.toList) = false := beq_eq_false_iff_ne.2 hq
              rw [hnb] at HN
              clear hq hhd hnb hc hC
              go_wp2_with (go_at_call 31; refine (HN.out _).mono ?_; clear HN; rintro e V ⟨rfl, dV⟩; replace HO := Lib.hid (HO.out.trans (dV.mono HO.out.size)); clear dV)
              go_roundw
              case rel => exact ⟨j + 1, by simp, by omega, hR, HO⟩
              case measure => simp [intOf]; omega
          · obtain rfl : j = 4 := by omega
            go_wp2_with fail
            go_roundw
            case rel =>
              exact ⟨k + 1, by simp, by omega, Lib.hid (hR.out.trans rfl), HO⟩
            case measure => simp [intOf]; omega
      · obtain rfl : k = 87 := by omega
        have hR' := Lib.hid (show R = none by rw [hR.out, rfrom_end])
        clear hR
        have BR := Lib.hid (BH.out.below HO.out)
        go_wp2_with (first
          | (refine wpList_store_row rfl 33 _ _ rfl w.heap.size (⟨0, 0, 0, 0, 0, false, false⟩ : Ins).cells rfl rfl 33 _ BR.out ins_info (by kernel_rfl) (Ins.one _) ?_))
        exact rparse_end BR.out (DH.out.trans (HO.out.mono (by omega))) rfl rfl rfl (by rw [hR'.out]; rfl)
end Go.Proofs.YtihcljaphajdfaaGreatDoor.Hand
