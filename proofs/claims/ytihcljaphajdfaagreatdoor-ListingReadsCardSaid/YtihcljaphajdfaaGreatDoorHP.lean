/- DERIVED. DERIVED. The reference's candidate for an operation: the walk of its try. -/
import Derived.Test.YtihcljaphajdfaaGreatDoorProg
import Derived.Test.YtihcljaphajdfaaGreatDoorMBits
import Derived.Test.YtihcljaphajdfaaGreatDoorMWalk
import Derived.Test.YtihcljaphajdfaaGreatDoorMTab
import Derived.Test.YtihcljaphajdfaaGreatDoorMInst
import Derived.Test.YtihcljaphajdfaaGreatDoorMDec
import Derived.Test.YtihcljaphajdfaaGreatDoorMDec2
import Derived.Test.YtihcljaphajdfaaGreatDoorMQTail
import Derived.Test.YtihcljaphajdfaaGreatDoorMArg
import Derived.Test.YtihcljaphajdfaaGreatDoorMRow
import Derived.Test.YtihcljaphajdfaaGreatDoorMOpen
import Derived.Test.YtihcljaphajdfaaGreatDoorMPart
import Derived.Test.YtihcljaphajdfaaGreatDoorMStore
import Derived.Test.YtihcljaphajdfaaGreatDoorMReg
import Derived.Test.YtihcljaphajdfaaGreatDoorMQTwo
import Derived.Test.YtihcljaphajdfaaGreatDoorMQTail
import Derived.Test.YtihcljaphajdfaaGreatDoorMQOne
import Derived.Test.YtihcljaphajdfaaGreatDoorMQPick
import Derived.Test.YtihcljaphajdfaaGreatDoorMReg
import Derived.Test.YtihcljaphajdfaaGreatDoorMStore
import Derived.Test.YtihcljaphajdfaaGreatDoorHN
import Derived.Test.YtihcljaphajdfaaGreatDoorPAllx2
import Derived.Test.YtihcljaphajdfaaGreatDoorPAllx4
import Derived.Test.YtihcljaphajdfaaGreatDoorPAllx8
import Derived.Test.YtihcljaphajdfaaGreatDoorPAllx9
import Derived.Test.YtihcljaphajdfaaGreatDoorPAllx10
import Derived.Below
import Derived.Deep.Draws
import Derived.Deep.AppendLies
import Derived.Maps.AppendAt
import Derived.OwnWalk
import Derived.Laws.BytesArg
import Derived.Laws.MakeOwn
import Derived.Laws.OwnMore
import Derived.Deep.OwnRows
import Derived.Tactics
import Derived.Lib.ConvBytes
import Derived.Laws.Slices
import Derived.WalkKit
import Derived.KernelRfl
import Derived.RowKit3
import Derived.Deep.LoopGhost
import Derived.Deep.QuietTactic
import Derived.BigQuiet
import Derived.WideLaws
import Derived.Deep.DeepCutAuto
import Derived.Deep.CutBlock
import Derived.Deep.RegionHeld3
import Derived.Laws.Rows
import Derived.Lib.AppendStr
import Derived.ArgAppend
import Derived.Laws.IdiomCopy
import Derived.OrdersHeld
import Derived.Laws.BitsLemmas
import Derived.Laws.Bits64
import Derived.RowKit
import Derived.Outline
import Derived.Handy
import Derived.Lib.Hide
import Derived.Deep.Light
import Derived.Laws.CopyOwn
import Derived.Lib.ItoaLen
import Derived.Deep.CutRange
import Derived.StillTail
import Derived.Shelf.RegionOpen
import Derived.Lib.QuietBelow
import Derived.Lib.AppendIntMem
import Derived.Laws.AppendOwnNone
import Derived.Shelf.Strings.Prefix
import Derived.Shelf.Strings.Split
import Derived.Shelf.Strings.Cut
import Derived.Shelf.Strings.Builder1
import Derived.Shelf.Strconv.AtoiAll
import Derived.Shelf.Strconv.Itoa3
import Derived.Ground.NamesProg
import Derived.Lib.AtoiTie
import Derived.Lib.AtoiErrMem
import Derived.Shelf.Vars
namespace Go.Proofs.YtihcljaphajdfaaGreatDoor.Hand
open Go Go.RowKit Go.Proofs.YtihcljaphajdfaaGreatDoor.M Go.Proofs.YtihcljaphajdfaaGreatDoor.PAll Go.Proofs.YtihcljaphajdfaaGreatDoorW.PrintWords
set_option linter.unusedVariables false
set_option linter.unusedSimpArgs false
attribute [local go_sem] Oper.semAt_some
theorem put_cells (i : Ins) (n : Nat) (hn : n < 4) (v : Int) : i.cells.setIfInBounds (n + 1) (.int .i64 v) = (i.put n v).cells := by
  obtain rfl | rfl | rfl | rfl : n = 0 ∨ n = 1 ∨ n = 2 ∨ n = 3 := by omega
  all_goals rfl
structure TryAt (w wr : World) (i : Ins) : Prop where
  d : Below w.heap.size w wr
  b0 : Blk wr w.heap.size (⟨0, 0, 0, 0, 0, false, false⟩ : Ins).cells 33
  b : Blk wr (w.heap.size + 1) i.cells 33
theorem TryAt.below {w W V : World} {i : Ins} (h : TryAt w W i) (d : Below W.heap.size W V) : TryAt w V i := ⟨h.d.trans (d.mono h.d.size), h.b0.below d, h.b.below d⟩
set_option maxRecDepth 100000 in
set_option maxHeartbeats 8000000 in
theorem try_any (op : Int) (h1 : 1 ≤ op) (h2 : op ≤ 87) (ws : List ByteArray) (A : Option Addr) (c : Nat) (w : World) (hC : WordsAt w A ws) (hl : ws.length ≤ 1000000) (hsz : ∀ x ∈ ws, x.size ≤ 1000000) :
    Calls Tryz.prog 32 #[.int .i64 op, .slice A ws.length c] w fun e w' => e = .returned (.agg (rcand op ws).cells) ∧ Below w.heap.size w w' := by
  have HROW := Lib.hid fun W => Row_any op W
  have HV := Lib.hid fun (s : ByteArray) (W : World) => value_any s W
  have hf := form_in op h1 h2
  have hC' := Lib.hid hC
  clear hC
  go_enter Tryz.func32, Tryz.ntmps32
  go_upto_region 2 with fail
  generalize hX : World.alloc (World.alloc w _) _ = X
  have HT := Lib.hid (show TryAt w X (rcandN op ws 0).1 by
    obtain ⟨B1, d1, s1⟩ := arg_box (cs := (⟨0, 0, 0, 0, 0, false, false⟩ : Ins).cells) (rfl : w.alloc (.cells (⟨0, 0, 0, 0, 0, false, false⟩ : Ins).cells 33) = _)
    obtain ⟨B2, d2, s2⟩ := arg_box (cs := (⟨op, 0, 0, 0, 0, false, false⟩ : Ins).cells) hX
    simp only [World.size_alloc] at B2
    exact ⟨d1.trans (d2.mono d1.size), B1.below d2, B2⟩)
  clear hX
  go_wp2_with (first | (rw [show ∀ a b c d : Int, ∀ V : World, (Instr.index 73 (.agg #[.int .i64 a, .int .i64 b, .int .i64 c, .int .i64 d]) (.int .i64 0)).run Tryz.prog V = .ok (.int .i64 a) V from fun _ _ _ _ _ => by kernel_rfl]) | (go_at_call 36; refine (HROW.out _).mono ?_; clear HROW; rintro e V ⟨rfl, dV⟩; replace HT := Lib.hid (HT.out.below dV); clear dV))
  go_loopw [6, 8] (fun o at_ wr => ∃ n : Nat, n ≤ 4 ∧ at_ = .int .i64 ((n : Int) + 1) ∧ o = .int .i64 ((rcandN op ws n).2 : Nat) ∧ Hid (TryAt w wr (rcandN op ws n).1)) (fun _ at_ _ => 5 - (intOf at_).toNat)
  case atStart => exact ⟨0, by omega, rfl, rfl, HT⟩
  case round =>
    obtain ⟨n, hn, rfl, rfl, HT⟩ := hrel
    by_cases hlt : n < 4
    · go_upto_region 7 with fail
      go_cut [9] from 22 to 87 (fun v wx => v = .bool (hasB op n) ∧ wx = wr)
      case first =>
        have hB : hasB op n = (if n = 0 then hasRd (formOf op) else if n = 1 then hasRs1 (formOf op) else if n = 2 then hasRs2 (formOf op) else hasImm (formOf op)) := by
          obtain rfl | rfl | rfl | rfl : n = 0 ∨ n = 1 ∨ n = 2 ∨ n = 3 := by omega
          all_goals rfl
        replace hB := Lib.hid hB
        clear HT HV hsz hl hC'
        generalize (rcandN op ws n).2 = o at *
        generalize (rcandN op ws n).1 = i at *
        generalize formOf op = f at *
        simp only [List.append_eq, List.cons_append, List.nil_append]
        generalize ha : (n : Int) + 1 = a at *
        obtain ⟨rfl, rfl⟩ | ⟨rfl, rfl⟩ | ⟨rfl, rfl⟩ | ⟨rfl, rfl⟩ : (n = 0 ∧ a = 1) ∨ (n = 1 ∧ a = 2) ∨ (n = 2 ∧ a = 3) ∨ (n = 3 ∧ a = 4) := by omega
        · by_cases e : f = 4 ∨ f = 5 ∨ f = 9 ∨ f = 10
          · rcases e with rfl | rfl | rfl | rfl
            all_goals
              go_wp2_with fail
              go_meet
              exact ⟨by rw [hB.out]; rfl, rfl⟩
          · have e1 : (f != 4) = true := by simp; omega
            have e2 : (f != 5) = true := by simp; omega
            have e3 : (f != 9) = true := by simp; omega
            have e4 : (f != 10) = true := by simp; omega
            have e5 : hasRd f = true := by unfold hasRd; rw [decide_eq_true_eq]; omega
            replace hB := Lib.hid (hB.out.trans (show _ = true from e5))
            go_wp2_with fail
            go_meet
            exact ⟨by rw [hB.out], rfl⟩
        · obtain h1 | h1 | h1 | h1 : f < 3 ∨ 3 ≤ f ∧ f ≤ 8 ∨ 9 ≤ f ∧ f ≤ 10 ∨ 11 ≤ f := by omega
          · have e1 : ¬ 3 ≤ f := by omega
            have e2 : ¬ 10 < f := by omega
            have e5 : hasRs1 f = false := by unfold hasRs1; rw [decide_eq_false_iff_not]; omega
            replace hB := Lib.hid (hB.out.trans (show _ = false from e5))
            go_wp2_with fail
            go_meet
            exact ⟨by rw [hB.out], rfl⟩
          · have e1 : 3 ≤ f := by omega
            have e2 : f ≤ 8 := by omega
            have e5 : hasRs1 f = true := by unfold hasRs1; rw [decide_eq_true_eq]; omega
            replace hB := Lib.hid (hB.out.trans (show _ = true from e5))
            go_wp2_with fail
            go_meet
            exact ⟨by rw [hB.out], rfl⟩
          · have e1 : 3 ≤ f := by omega
            have e2 : ¬ f ≤ 8 := by omega
            have e3 : ¬ 10 < f := by omega
            have e5 : hasRs1 f = false := by unfold hasRs1; rw [decide_eq_false_iff_not]; omega
            replace hB := Lib.hid (hB.out.trans (show _ = false from e5))
            go_wp2_with fail
            go_meet
            exact ⟨by rw [hB.out], rfl⟩
          · have e1 : 3 ≤ f := by omega
            have e2 : ¬ f ≤ 8 := by omega
            have e3 : 10 < f := by omega
            have e5 : hasRs1 f = true := by unfold hasRs1; rw [decide_eq_true_eq]; omega
            replace hB := Lib.hid (hB.out.trans (show _ = true from e5))
            go_wp2_with fail
            go_meet
            exact ⟨by rw [hB.out], rfl⟩
        · by_cases e : f = 4 ∨ f = 5 ∨ f = 8 ∨ f = 12
          · rcases e with rfl | rfl | rfl | rfl
            all_goals
              go_wp2_with fail
              go_meet
              exact ⟨by rw [hB.out]; rfl, rfl⟩
          · have e1 : (f == 4) = false := by simp; omega
            have e2 : (f == 5) = false := by simp; omega
            have e3 : (f == 8) = false := by simp; omega
            have e4 : (f == 12) = false := by simp; omega
            have e5 : hasRs2 f = false := by unfold hasRs2; rw [decide_eq_false_iff_not]; omega
            replace hB := Lib.hid (hB.out.trans (show _ = false from e5))
            go_wp2_with fail
            go_meet
            exact ⟨by rw [hB.out], rfl⟩
        · by_cases h1 : f < 8
          · have e5 : hasImm f = true := by unfold hasImm; rw [decide_eq_true_eq]; omega
            replace hB := Lib.hid (hB.out.trans (show _ = true from e5))
            go_wp2_with fail
            go_meet
            exact ⟨by rw [hB.out], rfl⟩
          · by_cases h2 : f = 9
            · subst h2
              go_wp2_with fail
              go_meet
              exact ⟨by rw [hB.out]; rfl, rfl⟩
            · have e1 : (f == 9) = false := by simp; omega
              have e5 : hasImm f = false := by unfold hasImm; rw [decide_eq_false_iff_not]; omega
              replace hB := Lib.hid (hB.out.trans (show _ = false from e5))
              go_wp2_with fail
              go_meet
              exact ⟨by rw [hB.out], rfl⟩
      case rest =>
        obtain ⟨rfl, rfl⟩ := hcut
        have hrg := rcandN_le op ws n
        by_cases hc : hasB op n = true ∧ (rcandN op ws n).2 < ws.length
        · have hy := rcandN_yes op ws n hc
          obtain ⟨ad, rfl, hcell⟩ := (hC'.out.below HT.out.d).cell _ hc.2
          generalize hwd : ws[(rcandN op ws n).2]'hc.2 = wd at *
          have hwz : wd.size ≤ 1000000 := hwd ▸ hsz _ (List.getElem_mem _)
          have hb1 := hc.1
          have hb2 : decide (((rcandN op ws n).2 : Int) ≥ (ws.length : Int)) = false := decide_eq_false (by have := hc.2; omega)
          have hb3 := hc.2
          obtain ⟨v, hv, HV1⟩ : ∃ v, valN (tailB wd ((n : Int) + 1)).data.toList = v ∧ Hid (∀ W, Calls Tryz.prog 49 #[.string (tailB wd ((n : Int) + 1))] W fun e w' => (∃ b, e = .returned (.tuple #[.int .i64 v, .bool b])) ∧ Below W.heap.size W w') := ⟨_, rfl, Lib.hid fun W => value_any _ W⟩
          rw [hv] at hy
          replace hy := Lib.hid hy
          clear hc hwd hv HV
          rw [hb1]
          generalize hhy : rcandN op ws (n + 1) = R1 at *
          generalize (rcandN op ws n).2 = o at *
          generalize (rcandN op ws n).1 = i at *
          have hw1 : wrap64 ((o : Int) + 1) = ((o + 1 : Nat) : Int) := by unfold wrap64; omega
          have hus : ∀ W, TryAt w W i → W.frozen? ⟨w.heap.size + 1, n + 1, none⟩ = false ∧ ∃ u, W.cell? ⟨w.heap.size + 1, n + 1, none⟩ = some u := by
            intro W HW
            have hs : n + 1 < i.cells.size := by rw [i.len]; omega
            exact ⟨HW.b.frozen (n + 1), i.cells[n + 1], by rw [HW.b.cell, Array.getElem?_eq_getElem hs]⟩
          have hne : ∀ W, TryAt w W i → TryAt w (W.setCell ⟨w.heap.size + 1, n + 1, none⟩ (.int .i64 v)) (i.put n v) := by
            intro W HW
            have hx := HW.b.set (n + 1) (.int .i64 v)
            rw [put_cells i n hlt v] at hx
            exact ⟨below_setc HW.d (by omega) _ _, HW.b0.far (Nat.ne_of_lt (Nat.lt_succ_self _)) _, hx⟩
          by_cases hz : 0 < wd.size ∧ n < 3
          · have ht : tailB wd ((n : Int) + 1) = wd.extract 1 wd.size := by unfold tailB; rw [if_pos ⟨by omega, hz.1⟩]
            rw [ht] at HV1
            clear ht
            obtain ⟨hz, hn3⟩ := hz
            obtain rfl | rfl | rfl : n = 0 ∨ n = 1 ∨ n = 2 := by omega
            all_goals
              go_wp2_with (go_at_call 49; refine (HV1.out _).mono ?_; clear HV1; rintro e V3 ⟨⟨b, rfl⟩, dV⟩; replace HT := Lib.hid (HT.out.below dV); clear dV; obtain ⟨hfz, us, hus⟩ := hus _ HT.out)
              go_roundw
              case rel => first
                | exact ⟨1, by omega, by rfl, by rw [show rcandN op ws 1 = R1 from hhy, hy.out]; rfl, Lib.hid (by rw [show rcandN op ws 1 = R1 from hhy, hy.out]; exact hne _ HT.out)⟩
                | exact ⟨2, by omega, by rfl, by rw [show rcandN op ws 2 = R1 from hhy, hy.out]; rfl, Lib.hid (by rw [show rcandN op ws 2 = R1 from hhy, hy.out]; exact hne _ HT.out)⟩
                | exact ⟨3, by omega, by rfl, by rw [show rcandN op ws 3 = R1 from hhy, hy.out]; rfl, Lib.hid (by rw [show rcandN op ws 3 = R1 from hhy, hy.out]; exact hne _ HT.out)⟩
              case measure => simp [intOf]
          · have ht : tailB wd ((n : Int) + 1) = wd := by unfold tailB; rw [if_neg (by omega)]
            rw [ht] at HV1
            clear ht
            have hzz : n < 3 → wd.size = 0 := by omega
            clear hz
            obtain rfl | rfl | rfl | rfl : n = 0 ∨ n = 1 ∨ n = 2 ∨ n = 3 := by omega
            all_goals
              (try have hz0 := hzz (by decide))
              clear hzz
              go_wp2_with (go_at_call 49; refine (HV1.out _).mono ?_; clear HV1; rintro e V3 ⟨⟨b, rfl⟩, dV⟩; replace HT := Lib.hid (HT.out.below dV); clear dV; obtain ⟨hfz, us, hus⟩ := hus _ HT.out)
              go_roundw
              case rel => first
                | exact ⟨1, by omega, by rfl, by rw [show rcandN op ws 1 = R1 from hhy, hy.out]; rfl, Lib.hid (by rw [show rcandN op ws 1 = R1 from hhy, hy.out]; exact hne _ HT.out)⟩
                | exact ⟨2, by omega, by rfl, by rw [show rcandN op ws 2 = R1 from hhy, hy.out]; rfl, Lib.hid (by rw [show rcandN op ws 2 = R1 from hhy, hy.out]; exact hne _ HT.out)⟩
                | exact ⟨3, by omega, by rfl, by rw [show rcandN op ws 3 = R1 from hhy, hy.out]; rfl, Lib.hid (by rw [show rcandN op ws 3 = R1 from hhy, hy.out]; exact hne _ HT.out)⟩
                | exact ⟨4, by omega, by rfl, by rw [show rcandN op ws 4 = R1 from hhy, hy.out]; rfl, Lib.hid (by rw [show rcandN op ws 4 = R1 from hhy, hy.out]; exact hne _ HT.out)⟩
              case measure => simp [intOf]
        · have hy := Lib.hid (rcandN_no op ws n hc)
          cases hbb : hasB op n
          · clear hc HV
            go_wp2_with fail
            go_roundw
            case rel => exact ⟨n + 1, by omega, by simp, by rw [hy.out], Lib.hid (by rw [hy.out]; exact HT.out)⟩
            case measure => simp [intOf]; omega
          · have hb2 : decide (((rcandN op ws n).2 : Int) ≥ (ws.length : Int)) = true := decide_eq_true (by
              have : ¬ (rcandN op ws n).2 < ws.length := fun h => hc ⟨hbb, h⟩
              omega)
            have hb4 : ws.length ≤ (rcandN op ws n).2 := by have := of_decide_eq_true hb2; omega
            clear hc HV
            go_wp2_with fail
            go_roundw
            case rel => exact ⟨n + 1, by omega, by simp, by rw [hy.out], Lib.hid (by rw [hy.out]; exact HT.out)⟩
            case measure => simp [intOf]; omega
    · obtain rfl : n = 4 := by omega
      clear HV
      go_wp2_with (first
        | (refine wpList_load_row rfl 33 _ rfl (w.heap.size + 1) rfl 33 _ _ _ HT.out.b Tryz.underlying33 rfl ins_info ?_)
        | (refine wpList_store_row rfl 33 _ _ rfl w.heap.size (rcand op ws).cells rfl rfl 33 _ HT.out.b0 ins_info (by kernel_rfl) (Ins.one _) ?_))
      refine bodyPost_ret (results_cell_row (fn := Tryz.f32) (p := 4) (ty := 33) (by kernel_rfl) _ _ w.heap.size 33 (rcand op ws).cells (0, 0) _ rfl (HT.out.b0.row _) Tryz.underlying33 rfl ins_info) rfl ?_
      exact ⟨rfl, below_row HT.out.d (Nat.le_refl _) _⟩
end Go.Proofs.YtihcljaphajdfaaGreatDoor.Hand
