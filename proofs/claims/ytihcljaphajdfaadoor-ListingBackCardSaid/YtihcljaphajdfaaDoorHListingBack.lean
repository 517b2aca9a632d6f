/- DERIVED. DERIVED. ListingBack: the walk of the law. -/
import Derived.Test.YtihcljaphajdfaaDoorProg
import Derived.Test.YtihcljaphajdfaaDoorMBits
import Derived.Test.YtihcljaphajdfaaDoorMWalk
import Derived.Test.YtihcljaphajdfaaDoorMTab
import Derived.Test.YtihcljaphajdfaaDoorMInst
import Derived.Test.YtihcljaphajdfaaDoorMDec
import Derived.Test.YtihcljaphajdfaaDoorMDec2
import Derived.Test.YtihcljaphajdfaaDoorMQTail
import Derived.Test.YtihcljaphajdfaaDoorMArg
import Derived.Test.YtihcljaphajdfaaDoorMRow
import Derived.Test.YtihcljaphajdfaaDoorMOpen
import Derived.Test.YtihcljaphajdfaaDoorMPart
import Derived.Test.YtihcljaphajdfaaDoorMStore
import Derived.Test.YtihcljaphajdfaaDoorMReg
import Derived.Test.YtihcljaphajdfaaDoorHY
import Derived.Test.YtihcljaphajdfaaDoorMQTwo
import Derived.Test.YtihcljaphajdfaaDoorMQTail
import Derived.Test.YtihcljaphajdfaaDoorMQOne
import Derived.Test.YtihcljaphajdfaaDoorMQPick
import Derived.Test.YtihcljaphajdfaaDoorMReg
import Derived.Test.YtihcljaphajdfaaDoorMStore
import Derived.Test.YtihcljaphajdfaaDoorPAllx3
import Derived.Test.YtihcljaphajdfaaDoorPAllx4
import Derived.Test.YtihcljaphajdfaaDoorPAllx6
import Derived.Test.YtihcljaphajdfaaDoorPAllx9
import Derived.Test.YtihcljaphajdfaaDoorPAllx11
import Derived.Below
import Derived.Deep.Draws
import Derived.Deep.AppendLies
import Derived.Maps.AppendAt
import Derived.OwnWalk
import Derived.Laws.BytesArg
import Derived.Laws.MakeOwn
import Derived.Laws.OwnMore
import Derived.Deep.OwnRows
import Derived.Tactics
import Derived.Lib.ConvBytes
import Derived.Laws.Slices
import Derived.WalkKit
import Derived.KernelRfl
import Derived.RowKit3
import Derived.Deep.LoopGhost
import Derived.Deep.QuietTactic
import Derived.BigQuiet
import Derived.WideLaws
import Derived.Deep.DeepCutAuto
import Derived.Deep.CutBlock
import Derived.Deep.RegionHeld3
import Derived.Laws.Rows
import Derived.Lib.AppendStr
import Derived.ArgAppend
import Derived.Laws.IdiomCopy
import Derived.OrdersHeld
import Derived.Laws.BitsLemmas
import Derived.Laws.Bits64
import Derived.RowKit
import Derived.Outline
import Derived.Handy
import Derived.Lib.Hide
import Derived.Deep.Light
import Derived.Laws.CopyOwn
import Derived.Lib.ItoaLen
import Derived.Deep.CutRange
import Derived.StillTail
import Derived.Shelf.RegionOpen
import Derived.Lib.QuietBelow
import Derived.Lib.AppendIntMem
import Derived.Laws.AppendOwnNone
import Derived.Shelf.Strings.Prefix
import Derived.Shelf.Strings.Split
import Derived.Shelf.Strings.Cut
import Derived.Shelf.Strings.Builder1
import Derived.Shelf.Strconv.AtoiAll
import Derived.Shelf.Strconv.Itoa3
import Derived.Ground.NamesProg
import Derived.Lib.AtoiTie
import Derived.Lib.AtoiErrMem
import Derived.Shelf.Vars
namespace Go.Proofs.YtihcljaphajdfaaDoor.Hand
open Go Go.RowKit Go.Proofs.YtihcljaphajdfaaDoor.M Go.Proofs.YtihcljaphajdfaaDoor.PAll Go.Proofs.YtihcljaphajdfaaDoorW.PrintWords
set_option linter.unusedVariables false
set_option linter.unusedSimpArgs false
attribute [local go_sem] Oper.semAt_some
set_option maxRecDepth 100000 in
set_option maxHeartbeats 4000000 in
theorem Same_same (l : List Ins) (A B : Option Addr) (n c d : Nat) (w : World) (hl : l.length = n) (hn : n ≤ 1000000) (ra : InsRow w A l) (rb : InsRow w B l) :
    Calls Tryd.prog 15 #[.slice A n c, .slice B n d] w fun e w' => e = .returned (.bool true) ∧ Below w.heap.size w w' := by
  have RA := Lib.hid ra
  have RB := Lib.hid rb
  clear ra rb
  go_enter Tryd.func15, Tryd.ntmps15
  go_wp2_with fail
  go_loopw [5] (fun k wr => ∃ m : Nat, k = .int .i64 m ∧ m ≤ n ∧ Hid (Below w.heap.size w wr)) (fun k _ => n - (intOf k).toNat)
  case atStart => exact ⟨0, rfl, by omega, Lib.hid (Below.refl _ _)⟩
  case round =>
    obtain ⟨m, rfl, hm, D⟩ := hrel
    by_cases hlt : m < n
    · have hml : m < l.length := by omega
      have hne : l ≠ [] := by intro e; rw [e] at hml; simp at hml
      obtain ⟨a, rfl, ha, ca⟩ := (RA.out.below D.out) hne
      obtain ⟨b, rfl, hb, cb⟩ := (RB.out.below D.out) hne
      have HA := Lib.hid (ca m _ (List.getElem?_eq_getElem hml))
      have HB := Lib.hid (cb m _ (List.getElem?_eq_getElem hml))
      clear ca cb
      generalize l[m] = i at *
      have CA : Hid (∀ V, (∃ pp : Regrown, V = Sort.grow (redrawn wr pp.d) pp.os) → CellsAt V (a.add (m * 7)) i.cells) := Lib.hid fun V hV => by
        obtain ⟨pp, rfl⟩ := hV
        exact HA.out.below (by rw [block_add]; exact ha) (below_regrown wr pp.d pp.os)
      have CB : Hid (∀ V, (∃ pp : Regrown, V = Sort.grow (redrawn wr pp.d) pp.os) → CellsAt V (b.add (m * 7)) i.cells) := Lib.hid fun V hV => by
        obtain ⟨pp, rfl⟩ := hV
        exact HB.out.below (by rw [block_add]; exact hb) (below_regrown wr pp.d pp.os)
      go_upto_region 6 with fail
      refine wp_region_quiet_below (by kernel_rfl) (by kernel_rfl) ?_
      go_big_quiet_step (fail)
      go_big_quiet_step (fail)
      go_big_quiet_step (fail)
      refine wpQuiet_load rfl 23 (.tmp 19) rfl (a.add (m * 7)) rfl i.cells _ (fun V hV => CA.out V hV) Tryd.underlying23 rfl ins_info ?_
      unfold Ins.cells
      try simp only [List.getElem_toArray, List.getElem_cons_succ, List.getElem_cons_zero, Act.put, List.setIfInBounds_toArray, List.set_cons_succ, List.set_cons_zero]
      go_big_quiet_step (fail)
      go_big_quiet_step (fail)
      go_big_quiet_step (fail)
      refine wpQuiet_load rfl 23 (.tmp 23) rfl (b.add (m * 7)) rfl i.cells _ (fun V hV => CB.out V hV) Tryd.underlying23 rfl ins_info ?_
      unfold Ins.cells
      try simp only [List.getElem_toArray, List.getElem_cons_succ, List.getElem_cons_zero, Act.put, List.setIfInBounds_toArray, List.set_cons_succ, List.set_cons_zero]
      go_big_quiet_step (fail)
      refine wpQuiet_nil ?_
      intro _ hw'
      obtain ⟨⟨dq, osq⟩, hw''⟩ := hw'
      subst hw''
      replace D := Lib.hid (D.out.trans ((below_regrown wr dq osq).mono D.out.size))
      clear HA HB CA CB
      generalize Sort.grow (redrawn wr dq) osq = Y at *
      go_wp2_with fail
      go_roundw
      case rel => exact ⟨m + 1, by simp, by omega, D⟩
      case measure => simp [intOf]; omega
    · obtain rfl : m = n := by omega
      go_wp2_with fail
      go_ret
      exact ⟨rfl, D.out⟩
set_option maxRecDepth 100000 in
set_option maxHeartbeats 4000000 in
theorem back_any (A : Option Addr) (n c : Nat) (l : List Ins) (w : World) (hl : l.length = n) (hr : InsRow w A l) (hi : ∀ i ∈ l, i.Ok) (hL : LaidOk w) :
    Calls Tryd.prog 6 #[.slice A n c] w fun e w' => e = .returned (.bool true) ∧ Below w.heap.size w w' := by
  have hL' := Lib.hid hL
  have HR := Lib.hid hr
  have HI := Lib.hid hi
  clear hL hr hi
  have HV := Lib.hid fun (W : World) (d : Below w.heap.size w W) => lives_any W (hL'.out.below d)
  by_cases hb : 60 < n
  · go_enter Tryd.func6, Tryd.ntmps6
    go_wp2_with (go_at_call 9; refine (HV.out _ (Below.refl _ _)).mono ?_; clear HV; rintro e V ⟨rfl, dV⟩)
    go_ret
    exact ⟨rfl, dV⟩
  · have hn : n ≤ 60 := by omega
    go_enter Tryd.func6, Tryd.ntmps6
    go_upto_region 4 with fail
    go_loopw [16] (fun k wr => ∃ m : Nat, k = .int .i64 m ∧ m ≤ n ∧ Hid (∀ i ∈ l.take m, i.good = true) ∧ Hid (Below w.heap.size w wr)) (fun k _ => n - (intOf k).toNat)
    case atStart => exact ⟨0, rfl, by omega, Lib.hid (fun i h => by cases h), Lib.hid (Below.refl _ _)⟩
    case round =>
      obtain ⟨m, rfl, hm, HG, D⟩ := hrel
      by_cases hlt : m < n
      · have hml : m < l.length := by omega
        obtain ⟨ad, rfl, had, hc⟩ := (HR.out.below D.out) (by intro e; rw [e] at hl; simp at hl; omega)
        have hcs := Lib.hid (hc m _ (List.getElem?_eq_getElem hml))
        have hok := HI.out _ (List.getElem_mem hml)
        have HT := Lib.hid fun (W : World) (d : Below w.heap.size w W) => Text_any l[m] hok W (hL'.out.below d)
        have HGd := Lib.hid fun (W : World) => rGood_any l[m] hok W
        have hsz := textL_len l[m] hok
        have HP := Lib.hid fun (W : World) (d : Below w.heap.size w W) => Parse_any ⟨(textL l[m]).toArray⟩ W (by rw [Lib.size_eq]; simp; omega) (hL'.out.below d)
        have hsn : ∀ i ∈ l.take (m + 1), i ∈ l.take m ∨ i = l[m] := by
          intro i hi
          rw [List.take_succ_eq_append_getElem hml, List.mem_append, List.mem_singleton] at hi
          exact hi
        clear hc
        generalize l[m] = i at *
        unfold ParsePost at HP
        simp only [parse_text] at HP
        go_upto_region 6 with (first | (refine wpList_store_row rfl 23 _ _ rfl wr.heap.size i.cells rfl rfl 23 _ (Blk.new wr _ _) ins_info (by kernel_rfl) (Ins.one _) ?_; (generalize hZ : World.setRow _ _ _ = Z)) | (refine wpList_load_at rfl 23 _ rfl (ad.add (m * 7)) rfl i.cells _ hcs.out Tryd.underlying23 rfl ins_info ?_))
        have BZ := Lib.hid (show Blk Z wr.heap.size i.cells 23 from hZ ▸ (Blk.new wr _ 23).row i.cells)
        have DZ : Below wr.heap.size wr Z := hZ ▸ below_row ((Below.refl _ _).alloc (Nat.le_refl _) _) (Nat.le_refl _) i.cells
        replace D := Lib.hid (D.out.trans (DZ.mono D.out.size))
        clear hZ DZ hcs
        cases hg : i.good
        · rw [hg] at HGd
          simp only [hg, Bool.false_eq_true, if_false] at HP
          unfold insEnd at HP
          clear hsn
          go_upto_region 7 with (first
            | (refine wpList_store_row rfl 23 _ _ rfl V2.heap.size (⟨0, 0, 0, 0, 0, false, false⟩ : Ins).cells rfl rfl 23 _ (Blk.new V2 _ _) ins_info (by kernel_rfl) (Ins.one _) ?_; (generalize hZ : World.setRow _ _ _ = Z2))
            | (refine wpList_load_row rfl 23 _ rfl wr.heap.size rfl 23 _ _ _ BZ.out Tryd.underlying23 rfl ins_info ?_)
            | (go_at_call 7; refine (HT.out _ D.out).mono ?_; clear HT; rintro e V ⟨rfl, dV⟩; replace D := Lib.hid (D.out.trans (dV.mono D.out.size)); replace BZ := Lib.hid (BZ.out.below dV); clear dV)
            | (go_at_call 10; refine (HP.out _ D.out).mono ?_; clear HP; rintro e V2 ⟨rfl, dV⟩; replace D := Lib.hid (D.out.trans (dV.mono D.out.size)); replace BZ := Lib.hid (BZ.out.below dV); clear dV))
          have DZ : Below V2.heap.size V2 Z2 := hZ ▸ below_row ((Below.refl _ _).alloc (Nat.le_refl _) _) (Nat.le_refl _) _
          replace D := Lib.hid (D.out.trans (DZ.mono D.out.size))
          replace BZ := Lib.hid (BZ.out.below DZ)
          clear hZ DZ
          go_wp2_with (first
            | (refine wpList_load_row rfl 23 _ rfl wr.heap.size rfl 23 _ _ _ BZ.out Tryd.underlying23 rfl ins_info ?_)
            | (go_at_call 12; refine (HGd.out _).mono ?_; clear HGd; rintro e V3 ⟨rfl, dV⟩; replace D := Lib.hid (D.out.trans (dV.mono D.out.size)); clear dV)
            | (go_at_call 9; refine (HV.out _ D.out).mono ?_; clear HV; rintro e V4 ⟨rfl, dV⟩))
          go_ret
          exact ⟨rfl, D.out.trans (dV.mono D.out.size)⟩
        · rw [hg] at HGd
          simp only [hg, if_true] at HP
          unfold insEnd at HP
          go_upto_region 7 with (first
            | (refine wpList_store_row rfl 23 _ _ rfl V2.heap.size i.cells rfl rfl 23 _ (Blk.new V2 _ _) ins_info (by kernel_rfl) (Ins.one _) ?_; (generalize hZ : World.setRow _ _ _ = Z2))
            | (refine wpList_load_row rfl 23 _ rfl wr.heap.size rfl 23 _ _ _ BZ.out Tryd.underlying23 rfl ins_info ?_)
            | (go_at_call 7; refine (HT.out _ D.out).mono ?_; clear HT; rintro e V ⟨rfl, dV⟩; replace D := Lib.hid (D.out.trans (dV.mono D.out.size)); replace BZ := Lib.hid (BZ.out.below dV); clear dV)
            | (go_at_call 10; refine (HP.out _ D.out).mono ?_; clear HP; rintro e V2 ⟨rfl, dV⟩; replace D := Lib.hid (D.out.trans (dV.mono D.out.size)); replace BZ := Lib.hid (BZ.out.below dV); clear dV))
          have BY := Lib.hid (show Blk Z2 V2.heap.size i.cells 23 from hZ ▸ (Blk.new V2 _ 23).row i.cells)
          have DZ : Below V2.heap.size V2 Z2 := hZ ▸ below_row ((Below.refl _ _).alloc (Nat.le_refl _) _) (Nat.le_refl _) _
          replace D := Lib.hid (D.out.trans (DZ.mono D.out.size))
          replace BZ := Lib.hid (BZ.out.below DZ)
          clear hZ DZ
          go_wp2_with (first
            | (refine wpList_load_row rfl 23 (.tmp 4) rfl wr.heap.size rfl 23 _ _ _ BZ.out Tryd.underlying23 rfl ins_info ?_)
            | (go_at_call 12; refine (HGd.out _).mono ?_; clear HGd; rintro e V3 ⟨rfl, dV⟩; replace D := Lib.hid (D.out.trans (dV.mono D.out.size)); replace BZ := Lib.hid (BZ.out.below dV); replace BY := Lib.hid (BY.out.below dV); clear dV; have f0 : V3.cell? ⟨wr.heap.size, 0, none⟩ = some (.int .i64 i.op) := BZ.out.cell 0; have f1 : V3.cell? ⟨wr.heap.size, 1, none⟩ = some (.int .i64 i.rd) := BZ.out.cell 1; have f2 : V3.cell? ⟨wr.heap.size, 2, none⟩ = some (.int .i64 i.rs1) := BZ.out.cell 2; have f3 : V3.cell? ⟨wr.heap.size, 3, none⟩ = some (.int .i64 i.rs2) := BZ.out.cell 3; have f4 : V3.cell? ⟨wr.heap.size, 4, none⟩ = some (.int .i64 i.imm) := BZ.out.cell 4; have f5 : V3.cell? ⟨wr.heap.size, 5, none⟩ = some (.bool i.aq) := BZ.out.cell 5; have f6 : V3.cell? ⟨wr.heap.size, 6, none⟩ = some (.bool i.rl) := BZ.out.cell 6; have g0 : V3.cell? ⟨V2.heap.size, 0, none⟩ = some (.int .i64 i.op) := BY.out.cell 0; have g1 : V3.cell? ⟨V2.heap.size, 1, none⟩ = some (.int .i64 i.rd) := BY.out.cell 1; have g2 : V3.cell? ⟨V2.heap.size, 2, none⟩ = some (.int .i64 i.rs1) := BY.out.cell 2; have g3 : V3.cell? ⟨V2.heap.size, 3, none⟩ = some (.int .i64 i.rs2) := BY.out.cell 3; have g4 : V3.cell? ⟨V2.heap.size, 4, none⟩ = some (.int .i64 i.imm) := BY.out.cell 4; have g5 : V3.cell? ⟨V2.heap.size, 5, none⟩ = some (.bool i.aq) := BY.out.cell 5; have g6 : V3.cell? ⟨V2.heap.size, 6, none⟩ = some (.bool i.rl) := BY.out.cell 6))
          go_roundw
          case rel => exact ⟨m + 1, by simp, by omega, Lib.hid (fun j hj => by rcases hsn j hj with h | rfl; exact HG.out j h; exact hg), D⟩
          case measure => simp [intOf]; omega
      · obtain rfl : m = n := by omega
        rw [← hl, List.take_length] at HG
        have HLn := Lib.hid (Lines_any A l.length c l wr rfl (by omega) (HR.out.below D.out) HI.out (hL'.out.below D.out))
        have hll := linesL_len l HI.out
        have HRd := Lib.hid fun (W : World) (d : Below w.heap.size w W) => readR_lines l HG.out ▸ Read_any (linesL l) W (by omega) (hL'.out.below d)
        unfold ReadPost at HRd
        rw [hl] at HLn
        subst hl
        go_upto_region 13 with (first
          | (go_at_call 14; refine HLn.out.mono ?_; clear HLn; rintro e V ⟨rfl, dV⟩; replace D := Lib.hid (D.out.trans (dV.mono D.out.size)); clear dV)
          | (go_at_call 13; refine (HRd.out _ D.out).mono ?_; clear HRd; rintro e V2 ⟨A2, c2, rfl, hr2, -, dV⟩; replace D := Lib.hid (D.out.trans (dV.mono D.out.size)); clear dV))
        have HS := Lib.hid (Same_same l A2 A l.length c2 c V2 rfl (by omega) hr2 (HR.out.below D.out))
        go_wp2_with (first
          | (go_at_call 15; refine HS.out.mono ?_; clear HS; rintro e V3 ⟨rfl, dV⟩; replace D := Lib.hid (D.out.trans (dV.mono D.out.size)); clear dV)
          | (go_at_call 9; refine (HV.out _ D.out).mono ?_; clear HV; rintro e V4 ⟨rfl, dV⟩; replace D := Lib.hid (D.out.trans (dV.mono D.out.size))))
        go_ret
        exact ⟨rfl, D.out⟩
theorem ListingBack.all (A : Option Addr) (n c : Nat) (l : List Ins) (w : World) (hL : LaidOk w) (hr : InsRow w A l) (hl : l.length = n) (hi : ∀ i ∈ l, i.Ok) :
    Calls Tryd.prog 6 #[.slice A n c] w fun e w' => e = .returned (.bool true) ∧ Below w.heap.size w w' := back_any A n c l w hl hr hi hL
end Go.Proofs.YtihcljaphajdfaaDoor.Hand
