/- DERIVED. DERIVED. An instruction's line: the walk of Text. -/
import Derived.Test.YtihcljaphajdfaaGreatDoorProg
import Derived.Test.YtihcljaphajdfaaGreatDoorMBits
import Derived.Test.YtihcljaphajdfaaGreatDoorMWalk
import Derived.Test.YtihcljaphajdfaaGreatDoorMTab
import Derived.Test.YtihcljaphajdfaaGreatDoorMInst
import Derived.Test.YtihcljaphajdfaaGreatDoorMDec
import Derived.Test.YtihcljaphajdfaaGreatDoorMDec2
import Derived.Test.YtihcljaphajdfaaGreatDoorMQTail
import Derived.Test.YtihcljaphajdfaaGreatDoorMArg
import Derived.Test.YtihcljaphajdfaaGreatDoorMRow
import Derived.Test.YtihcljaphajdfaaGreatDoorMOpen
import Derived.Test.YtihcljaphajdfaaGreatDoorMPart
import Derived.Test.YtihcljaphajdfaaGreatDoorMStore
import Derived.Test.YtihcljaphajdfaaGreatDoorMReg
import Derived.Test.YtihcljaphajdfaaGreatDoorMQTwo
import Derived.Test.YtihcljaphajdfaaGreatDoorMQTail
import Derived.Test.YtihcljaphajdfaaGreatDoorMQOne
import Derived.Test.YtihcljaphajdfaaGreatDoorMQPick
import Derived.Test.YtihcljaphajdfaaGreatDoorMReg
import Derived.Test.YtihcljaphajdfaaGreatDoorMStore
import Derived.Test.YtihcljaphajdfaaGreatDoorHB
import Derived.Test.YtihcljaphajdfaaGreatDoorPAllx2
import Derived.Test.YtihcljaphajdfaaGreatDoorPAllx4
import Derived.Test.YtihcljaphajdfaaGreatDoorPAllx8
import Derived.Test.YtihcljaphajdfaaGreatDoorPAllx9
import Derived.Test.YtihcljaphajdfaaGreatDoorPAllx10
import Derived.Below
import Derived.Deep.Draws
import Derived.Deep.AppendLies
import Derived.Maps.AppendAt
import Derived.OwnWalk
import Derived.Laws.BytesArg
import Derived.Laws.MakeOwn
import Derived.Laws.OwnMore
import Derived.Deep.OwnRows
import Derived.Tactics
import Derived.Lib.ConvBytes
import Derived.Laws.Slices
import Derived.WalkKit
import Derived.KernelRfl
import Derived.RowKit3
import Derived.Deep.LoopGhost
import Derived.Deep.QuietTactic
import Derived.BigQuiet
import Derived.WideLaws
import Derived.Deep.DeepCutAuto
import Derived.Deep.CutBlock
import Derived.Deep.RegionHeld3
import Derived.Laws.Rows
import Derived.Lib.AppendStr
import Derived.ArgAppend
import Derived.Laws.IdiomCopy
import Derived.OrdersHeld
import Derived.Laws.BitsLemmas
import Derived.Laws.Bits64
import Derived.RowKit
import Derived.Outline
import Derived.Handy
import Derived.Lib.Hide
import Derived.Deep.Light
import Derived.Laws.CopyOwn
import Derived.Lib.ItoaLen
import Derived.Deep.CutRange
import Derived.StillTail
import Derived.Shelf.RegionOpen
import Derived.Lib.QuietBelow
import Derived.Lib.AppendIntMem
import Derived.Laws.AppendOwnNone
import Derived.Shelf.Strings.Prefix
import Derived.Shelf.Strings.Split
import Derived.Shelf.Strings.Cut
import Derived.Shelf.Strings.Builder1
import Derived.Shelf.Strconv.AtoiAll
import Derived.Shelf.Strconv.Itoa3
import Derived.Ground.NamesProg
import Derived.Lib.AtoiTie
import Derived.Lib.AtoiErrMem
import Derived.Shelf.Vars
namespace Go.Proofs.YtihcljaphajdfaaGreatDoor.Hand
open Go Go.RowKit Go.Proofs.YtihcljaphajdfaaGreatDoor.M Go.Proofs.YtihcljaphajdfaaGreatDoor.PAll Go.Proofs.YtihcljaphajdfaaGreatDoorW.PrintWords
set_option linter.unusedVariables false
set_option linter.unusedSimpArgs false
attribute [local go_sem] Oper.semAt_some
theorem parts_bits (op : Int) (h1 : 1 ≤ op) (h2 : op ≤ 87) : decide (0 < Go.bits .and .i64 (partsOf op) 1) = hasRd (formOf op) ∧ decide (0 < Go.bits .and .i64 (partsOf op) 2) = hasRs1 (formOf op) ∧ decide (0 < Go.bits .and .i64 (partsOf op) 4) = hasRs2 (formOf op) ∧ decide (0 < Go.bits .and .i64 (partsOf op) 8) = hasImm (formOf op) := by
  have : ∀ n : Nat, n < 87 → decide (0 < Go.bits .and .i64 (partsOf ((n : Int) + 1)) 1) = hasRd (formOf ((n : Int) + 1)) ∧ decide (0 < Go.bits .and .i64 (partsOf ((n : Int) + 1)) 2) = hasRs1 (formOf ((n : Int) + 1)) ∧ decide (0 < Go.bits .and .i64 (partsOf ((n : Int) + 1)) 4) = hasRs2 (formOf ((n : Int) + 1)) ∧ decide (0 < Go.bits .and .i64 (partsOf ((n : Int) + 1)) 8) = hasImm (formOf ((n : Int) + 1)) := by decide +kernel
  have h := this (op - 1).toNat (by omega)
  rwa [show (((op - 1).toNat : Nat) : Int) + 1 = op by omega] at h
theorem fld_len (b : Bool) (h : List UInt8) (n : Int) : (fldL b h n).length ≤ h.length + (Lib.itoa n).length := by
  cases b
  · exact Nat.zero_le _
  · unfold fldL; rw [if_pos rfl, List.length_append]; exact Nat.le_refl _
set_option maxRecDepth 100000 in
set_option maxHeartbeats 2000000 in
theorem Text_any (i : Ins) (hi : i.Ok) (w : World) (hL : LaidOk w) : Calls Tryz.prog 11 #[.agg i.cells] w fun e w' => e = .returned (.string ⟨(textL i).toArray⟩) ∧ Below w.heap.size w w' := by
  have HG := Lib.hid fun W => Good_any i hi W
  unfold Ins.cells at *
  cases hg : i.good
  · rw [hg] at HG
    have ht : textL i = [] := by unfold textL; rw [hg]; rfl
    rw [ht]
    go_enter Tryz.func11, Tryz.ntmps11
    go_upto_region 1 with fail
    generalize hX : World.alloc w _ = X
    obtain ⟨B, dX, sX⟩ := arg_box (cs := i.cells) hX
    clear hX
    have HB := Lib.hid B
    have D := Lib.hid dX
    clear B dX
    go_wp2_with (first
      | (refine wpList_load_row rfl 33 _ rfl w.heap.size rfl 33 _ _ _ HB.out Tryz.underlying33 rfl ins_info ?_)
      | (go_at_call 24; refine (HG.out _).mono ?_; clear HG; rintro e W ⟨rfl, dW⟩; replace D := Lib.hid (D.out.trans (dW.mono D.out.size)); clear dW))
    go_ret
    exact ⟨rfl, D.out⟩
  · obtain ⟨h1, h2⟩ := good_range i hg
    have HN := Lib.hid fun W => name_any i.op W h1 h2
    have HS := Lib.hid fun W => suffix_any i.aq i.rl W
    have HP := Lib.hid fun W => parts_any i.op h1 h2 W
    have hcat := str_cat (nameL i.op) (sufL i.aq i.rl)
    have hnl := name_len i.op
    have hsl := suf_len i.aq i.rl
    have hfit : ¬ 9223372036854775807 < (nameL i.op).length + (sufL i.aq i.rl).length := by omega
    rw [hg] at HG
    go_enter Tryz.func11, Tryz.ntmps11
    go_upto_region 1 with fail
    generalize hX : World.alloc w _ = X
    obtain ⟨B, dX, sX⟩ := arg_box (cs := i.cells) hX
    clear hX
    have HB := Lib.hid B
    have D := Lib.hid dX
    clear B dX
    go_upto_region 3 with (first
      | (refine wpList_load_row rfl 33 _ rfl w.heap.size rfl 33 _ _ _ HB.out Tryz.underlying33 rfl ins_info ?_)
      | (go_at_call 24; refine (HG.out _).mono ?_; clear HG; rintro e W ⟨rfl, dW⟩; replace HB := Lib.hid (HB.out.below dW); replace D := Lib.hid (D.out.trans (dW.mono D.out.size)); clear dW))
    go_cut [3] from 9 to 17 (fun v wx => ∃ q : Nat, v = .pointer (some ⟨q, 0, none⟩) ∧ W.heap.size ≤ q ∧ Hid (Blk wx q #[.string ⟨(nameL i.op ++ sufL i.aq i.rl).toArray⟩] 9) ∧ Hid (Below W.heap.size W wx))
    case first =>
      have c0 : W.cell? ⟨w.heap.size, 0, none⟩ = some (.int .i64 i.op) := HB.out.cell 0
      have c5 : W.cell? ⟨w.heap.size, 5, none⟩ = some (.bool i.aq) := HB.out.cell 5
      have c6 : W.cell? ⟨w.heap.size, 6, none⟩ = some (.bool i.rl) := HB.out.cell 6
      have r0 := cell_regrown c0
      have r5 := cell_regrown c5
      have r6 := cell_regrown c6
      clear c0 c5 c6
      refine wp_region_picks [0, 1, 3, 4, 5, 6] [{ dst := some 9, op := Op.fieldAddr 33 (Operand.tmp 1) 0, type := 0, pos := "listing.go:68", after := #[], guard := none }, { dst := some 10, op := Op.load 3 (Operand.tmp 9), type := 3, pos := "listing.go:68", after := #[{ on := 0, ground := Ground.data }], guard := none }, { dst := some 12, op := Op.fieldAddr 33 (Operand.tmp 1) 5, type := 0, pos := "listing.go:68", after := #[], guard := none }, { dst := some 13, op := Op.load 4 (Operand.tmp 12), type := 4, pos := "listing.go:68", after := #[{ on := 3, ground := Ground.data }], guard := none }, { dst := some 14, op := Op.fieldAddr 33 (Operand.tmp 1) 6, type := 0, pos := "listing.go:68", after := #[], guard := none }, { dst := some 15, op := Op.load 4 (Operand.tmp 14), type := 4, pos := "listing.go:68", after := #[{ on := 5, ground := Ground.data }], guard := none }] rfl (by kernel_rfl) (by decide) (by kernel_rfl) (by kernel_rfl) (by kernel_rfl) (fun _ _ _ _ _ h => h) ?_
      go_big_quiet_step (fail)
      go_big_quiet_step (fail)
      go_big_quiet_step (fail)
      go_big_quiet_step (fail)
      go_big_quiet_step (fail)
      go_big_quiet_step (fail)
      refine wpQuiet_nil ?_
      intro _ hw'
      obtain ⟨⟨dq, osq⟩, hw''⟩ := hw'
      subst hw''
      clear r0 r5 r6
      show wpAnyH Tryz.prog .any _ _ _ 5 _ _ _
      have dY0 := below_regrown W dq osq
      generalize Sort.grow (redrawn W dq) osq = Y0 at *
      refine wpAnyH_all (rs := [2, 9]) (by kernel_rfl) (by simp) ?_
      intro kk hkk
      simp only [List.mem_cons, List.not_mem_nil, or_false] at hkk
      rcases hkk with rfl | rfl
      · refine wpOp_calls (f := 19) (args := #[.int .i64 i.op]) rfl rfl ?hr1 ?_
        case hr1 => go_simp
        refine (HN.out _).mono ?_
        rintro e Y1 ⟨rfl, dW⟩
        have dY1 := dY0.trans (dW.mono dY0.size)
        clear dW
        refine ⟨_, rfl, regrown_of_below dY1, ?_⟩
        try simp only [List.getElem_toArray, List.getElem_cons_succ, List.getElem_cons_zero, Act.put, List.setIfInBounds_toArray, List.set_cons_succ, List.set_cons_zero]
        refine wpAnyH_all (rs := [7, 9]) (by kernel_rfl) (by simp) ?_
        intro kk hkk
        simp only [List.mem_cons, List.not_mem_nil, or_false] at hkk
        rcases hkk with rfl | rfl
        · refine wpOp_calls (f := 25) (args := #[.bool i.aq, .bool i.rl]) rfl rfl ?hr2 ?_
          case hr2 => go_simp
          refine (HS.out _).mono ?_
          rintro e Y2 ⟨rfl, dW⟩
          have dY2 := dY1.trans (dW.mono dY1.size)
          clear dW
          refine ⟨_, rfl, regrown_of_below dY2, ?_⟩
          try simp only [List.getElem_toArray, List.getElem_cons_succ, List.getElem_cons_zero, Act.put, List.setIfInBounds_toArray, List.set_cons_succ, List.set_cons_zero]
          refine wpAnyH_all (rs := [8, 9]) (by kernel_rfl) (by simp) ?_
          intro kk hkk
          simp only [List.mem_cons, List.not_mem_nil, or_false] at hkk
          rcases hkk with rfl | rfl
          · refine wpOp_of_list rfl ?_
            go_wp2_with fail
            refine thenK_intro ?_
            refine ⟨regrown_of_below dY2, ?_⟩
            try simp only [List.getElem_toArray, List.getElem_cons_succ, List.getElem_cons_zero, Act.put, List.setIfInBounds_toArray, List.set_cons_succ, List.set_cons_zero]
            refine wpAnyH_all (rs := [9]) (by kernel_rfl) (by simp) ?_
            intro kk hkk
            simp only [List.mem_singleton] at hkk
            subst hkk
            refine wpOp_alloc rfl rfl _ rfl _ (alloc_str _) ?_
            have hsz : W.heap.size ≤ Y2.heap.size := dY2.size
            generalize hY : World.alloc Y2 _ = Y4
            obtain ⟨BQ, dW, _⟩ := arg_box (cs := #[.string ⟨#[]⟩]) hY
            clear hY
            have dY4 := dY2.trans (dW.mono dY2.size)
            clear dW
            refine ⟨regrown_of_below dY4, ?_⟩
            try simp only [List.getElem_toArray, List.getElem_cons_succ, List.getElem_cons_zero, Act.put, List.setIfInBounds_toArray, List.set_cons_succ, List.set_cons_zero]
            refine wpAnyH_all (rs := [10]) (by kernel_rfl) (by simp) ?_
            intro kk hkk
            simp only [List.mem_singleton] at hkk
            subst hkk
            refine wpOp_of_list rfl ?_
            refine wpList_store_val rfl 9 _ _ rfl Y2.heap.size 0 (.string ⟨(nameL i.op ++ sufL i.aq i.rl).toArray⟩) rfl rfl rfl rfl _ _ BQ (by decide) str_info ?_
            refine wpList_thenK ?_
            generalize hZ : World.setCell Y4 _ _ = Y5
            replace BQ : Blk Y5 Y2.heap.size #[.string ⟨(nameL i.op ++ sufL i.aq i.rl).toArray⟩] 9 := hZ ▸ BQ.set 0 (.string ⟨(nameL i.op ++ sufL i.aq i.rl).toArray⟩)
            have dY5 : Below W.heap.size W Y5 := hZ ▸ below_setc dY4 hsz 0 _
            clear hZ
            refine ⟨regrown_of_below dY5, ?_⟩
            try simp only [List.getElem_toArray, List.getElem_cons_succ, List.getElem_cons_zero, Act.put, List.setIfInBounds_toArray, List.set_cons_succ, List.set_cons_zero]
            refine wpAnyH_done (by kernel_rfl) ?_ _
            go_wp2_with fail
            go_meet
            case rel => exact ⟨Y2.heap.size, rfl, hsz, Lib.hid BQ, Lib.hid dY5⟩
          · refine wpOp_alloc rfl rfl _ rfl _ (alloc_str _) ?_
            have hsz : W.heap.size ≤ Y2.heap.size := dY2.size
            generalize hY : World.alloc Y2 _ = Y6
            obtain ⟨BQ, dW, _⟩ := arg_box (cs := #[.string ⟨#[]⟩]) hY
            clear hY
            have dY6 := dY2.trans (dW.mono dY2.size)
            clear dW
            refine ⟨regrown_of_below dY6, ?_⟩
            try simp only [List.getElem_toArray, List.getElem_cons_succ, List.getElem_cons_zero, Act.put, List.setIfInBounds_toArray, List.set_cons_succ, List.set_cons_zero]
            refine wpAnyH_all (rs := [8]) (by kernel_rfl) (by simp) ?_
            intro kk hkk
            simp only [List.mem_singleton] at hkk
            subst hkk
            refine wpOp_of_list rfl ?_
            go_wp2_with fail
            refine thenK_intro ?_
            refine ⟨regrown_of_below dY6, ?_⟩
            try simp only [List.getElem_toArray, List.getElem_cons_succ, List.getElem_cons_zero, Act.put, List.setIfInBounds_toArray, List.set_cons_succ, List.set_cons_zero]
            refine wpAnyH_all (rs := [10]) (by kernel_rfl) (by simp) ?_
            intro kk hkk
            simp only [List.mem_singleton] at hkk
            subst hkk
            refine wpOp_of_list rfl ?_
            refine wpList_store_val rfl 9 _ _ rfl Y2.heap.size 0 (.string ⟨(nameL i.op ++ sufL i.aq i.rl).toArray⟩) rfl rfl rfl rfl _ _ BQ (by decide) str_info ?_
            refine wpList_thenK ?_
            generalize hZ : World.setCell Y6 _ _ = Y8
            replace BQ : Blk Y8 Y2.heap.size #[.string ⟨(nameL i.op ++ sufL i.aq i.rl).toArray⟩] 9 := hZ ▸ BQ.set 0 (.string ⟨(nameL i.op ++ sufL i.aq i.rl).toArray⟩)
            have dY8 : Below W.heap.size W Y8 := hZ ▸ below_setc dY6 hsz 0 _
            clear hZ
            refine ⟨regrown_of_below dY8, ?_⟩
            try simp only [List.getElem_toArray, List.getElem_cons_succ, List.getElem_cons_zero, Act.put, List.setIfInBounds_toArray, List.set_cons_succ, List.set_cons_zero]
            refine wpAnyH_done (by kernel_rfl) ?_ _
            go_wp2_with fail
            go_meet
            case rel => exact ⟨Y2.heap.size, rfl, hsz, Lib.hid BQ, Lib.hid dY8⟩
        · refine wpOp_alloc rfl rfl _ rfl _ (alloc_str _) ?_
          have hsz : W.heap.size ≤ Y1.heap.size := dY1.size
          generalize hY : World.alloc Y1 _ = Y9
          obtain ⟨BQ, dW, _⟩ := arg_box (cs := #[.string ⟨#[]⟩]) hY
          clear hY
          have dY9 := dY1.trans (dW.mono dY1.size)
          clear dW
          refine ⟨regrown_of_below dY9, ?_⟩
          try simp only [List.getElem_toArray, List.getElem_cons_succ, List.getElem_cons_zero, Act.put, List.setIfInBounds_toArray, List.set_cons_succ, List.set_cons_zero]
          refine wpAnyH_all (rs := [7]) (by kernel_rfl) (by simp) ?_
          intro kk hkk
          simp only [List.mem_singleton] at hkk
          subst hkk
          refine wpOp_calls (f := 25) (args := #[.bool i.aq, .bool i.rl]) rfl rfl ?hr10 ?_
          case hr10 => go_simp
          refine (HS.out _).mono ?_
          rintro e Y10 ⟨rfl, dW⟩
          have dY10 := dY9.trans (dW.mono dY9.size)
          replace BQ := BQ.below dW
          clear dW
          refine ⟨_, rfl, regrown_of_below dY10, ?_⟩
          try simp only [List.getElem_toArray, List.getElem_cons_succ, List.getElem_cons_zero, Act.put, List.setIfInBounds_toArray, List.set_cons_succ, List.set_cons_zero]
          refine wpAnyH_all (rs := [8]) (by kernel_rfl) (by simp) ?_
          intro kk hkk
          simp only [List.mem_singleton] at hkk
          subst hkk
          refine wpOp_of_list rfl ?_
          go_wp2_with fail
          refine thenK_intro ?_
          refine ⟨regrown_of_below dY10, ?_⟩
          try simp only [List.getElem_toArray, List.getElem_cons_succ, List.getElem_cons_zero, Act.put, List.setIfInBounds_toArray, List.set_cons_succ, List.set_cons_zero]
          refine wpAnyH_all (rs := [10]) (by kernel_rfl) (by simp) ?_
          intro kk hkk
          simp only [List.mem_singleton] at hkk
          subst hkk
          refine wpOp_of_list rfl ?_
          refine wpList_store_val rfl 9 _ _ rfl Y1.heap.size 0 (.string ⟨(nameL i.op ++ sufL i.aq i.rl).toArray⟩) rfl rfl rfl rfl _ _ BQ (by decide) str_info ?_
          refine wpList_thenK ?_
          generalize hZ : World.setCell Y10 _ _ = Y12
          replace BQ : Blk Y12 Y1.heap.size #[.string ⟨(nameL i.op ++ sufL i.aq i.rl).toArray⟩] 9 := hZ ▸ BQ.set 0 (.string ⟨(nameL i.op ++ sufL i.aq i.rl).toArray⟩)
          have dY12 : Below W.heap.size W Y12 := hZ ▸ below_setc dY10 hsz 0 _
          clear hZ
          refine ⟨regrown_of_below dY12, ?_⟩
          try simp only [List.getElem_toArray, List.getElem_cons_succ, List.getElem_cons_zero, Act.put, List.setIfInBounds_toArray, List.set_cons_succ, List.set_cons_zero]
          refine wpAnyH_done (by kernel_rfl) ?_ _
          go_wp2_with fail
          go_meet
          case rel => exact ⟨Y1.heap.size, rfl, hsz, Lib.hid BQ, Lib.hid dY12⟩
      · refine wpOp_alloc rfl rfl _ rfl _ (alloc_str _) ?_
        have hsz : W.heap.size ≤ Y0.heap.size := dY0.size
        generalize hY : World.alloc Y0 _ = Y13
        obtain ⟨BQ, dW, _⟩ := arg_box (cs := #[.string ⟨#[]⟩]) hY
        clear hY
        have dY13 := dY0.trans (dW.mono dY0.size)
        clear dW
        refine ⟨regrown_of_below dY13, ?_⟩
        try simp only [List.getElem_toArray, List.getElem_cons_succ, List.getElem_cons_zero, Act.put, List.setIfInBounds_toArray, List.set_cons_succ, List.set_cons_zero]
        refine wpAnyH_all (rs := [2]) (by kernel_rfl) (by simp) ?_
        intro kk hkk
        simp only [List.mem_singleton] at hkk
        subst hkk
        refine wpOp_calls (f := 19) (args := #[.int .i64 i.op]) rfl rfl ?hr14 ?_
        case hr14 => go_simp
        refine (HN.out _).mono ?_
        rintro e Y14 ⟨rfl, dW⟩
        have dY14 := dY13.trans (dW.mono dY13.size)
        replace BQ := BQ.below dW
        clear dW
        refine ⟨_, rfl, regrown_of_below dY14, ?_⟩
        try simp only [List.getElem_toArray, List.getElem_cons_succ, List.getElem_cons_zero, Act.put, List.setIfInBounds_toArray, List.set_cons_succ, List.set_cons_zero]
        refine wpAnyH_all (rs := [7]) (by kernel_rfl) (by simp) ?_
        intro kk hkk
        simp only [List.mem_singleton] at hkk
        subst hkk
        refine wpOp_calls (f := 25) (args := #[.bool i.aq, .bool i.rl]) rfl rfl ?hr15 ?_
        case hr15 => go_simp
        refine (HS.out _).mono ?_
        rintro e Y15 ⟨rfl, dW⟩
        have dY15 := dY14.trans (dW.mono dY14.size)
        replace BQ := BQ.below dW
        clear dW
        refine ⟨_, rfl, regrown_of_below dY15, ?_⟩
        try simp only [List.getElem_toArray, List.getElem_cons_succ, List.getElem_cons_zero, Act.put, List.setIfInBounds_toArray, List.set_cons_succ, List.set_cons_zero]
        refine wpAnyH_all (rs := [8]) (by kernel_rfl) (by simp) ?_
        intro kk hkk
        simp only [List.mem_singleton] at hkk
        subst hkk
        refine wpOp_of_list rfl ?_
        go_wp2_with fail
        refine thenK_intro ?_
        refine ⟨regrown_of_below dY15, ?_⟩
        try simp only [List.getElem_toArray, List.getElem_cons_succ, List.getElem_cons_zero, Act.put, List.setIfInBounds_toArray, List.set_cons_succ, List.set_cons_zero]
        refine wpAnyH_all (rs := [10]) (by kernel_rfl) (by simp) ?_
        intro kk hkk
        simp only [List.mem_singleton] at hkk
        subst hkk
        refine wpOp_of_list rfl ?_
        refine wpList_store_val rfl 9 _ _ rfl Y0.heap.size 0 (.string ⟨(nameL i.op ++ sufL i.aq i.rl).toArray⟩) rfl rfl rfl rfl _ _ BQ (by decide) str_info ?_
        refine wpList_thenK ?_
        generalize hZ : World.setCell Y15 _ _ = Y17
        replace BQ : Blk Y17 Y0.heap.size #[.string ⟨(nameL i.op ++ sufL i.aq i.rl).toArray⟩] 9 := hZ ▸ BQ.set 0 (.string ⟨(nameL i.op ++ sufL i.aq i.rl).toArray⟩)
        have dY17 : Below W.heap.size W Y17 := hZ ▸ below_setc dY15 hsz 0 _
        clear hZ
        refine ⟨regrown_of_below dY17, ?_⟩
        try simp only [List.getElem_toArray, List.getElem_cons_succ, List.getElem_cons_zero, Act.put, List.setIfInBounds_toArray, List.set_cons_succ, List.set_cons_zero]
        refine wpAnyH_done (by kernel_rfl) ?_ _
        go_wp2_with fail
        go_meet
        case rel => exact ⟨Y0.heap.size, rfl, hsz, Lib.hid BQ, Lib.hid dY17⟩
    case rest =>
      obtain ⟨q, rfl, hq, HQ, DQ⟩ := hcut
      have hq2 : w.heap.size < q := Nat.lt_of_lt_of_le (by have := HB.out.lt; omega) hq
      replace HB := Lib.hid (HB.out.below DQ.out)
      replace D := Lib.hid (D.out.trans (DQ.out.mono D.out.size))
      have c0 : wc.cell? ⟨w.heap.size, 0, none⟩ = some (.int .i64 i.op) := HB.out.cell 0
      clear DQ
      go_upto_region 5 with (go_at_call 23; refine (HP.out _).mono ?_; clear HP; rintro e W1 ⟨rfl, dW⟩; replace HB := Lib.hid (HB.out.below dW); replace HQ := Lib.hid (HQ.out.below dW); replace D := Lib.hid (D.out.trans (dW.mono D.out.size)); clear dW c0)
      generalize hX : World.alloc W1 _ = W2
      obtain ⟨BP, dX, _⟩ := arg_box (cs := #[.int .i64 (partsOf i.op)]) hX
      clear hX
      have hgp : q < W1.heap.size := HQ.out.lt
      have hgq : w.heap.size ≠ q := by omega
      have hgr : W1.heap.size ≠ q := by omega
      replace HB := Lib.hid (HB.out.below dX)
      replace HQ := Lib.hid (HQ.out.below dX)
      replace D := Lib.hid (D.out.trans (dX.mono D.out.size))
      have HPb := Lib.hid BP
      clear dX BP
      have hpb := parts_bits i.op h1 h2
      generalize partsOf i.op = p at *
      have k1 := Lib.hid (Lib.itoa_length_le i.rd (by have := hi.rd; unfold I64 at this; omega) (by have := hi.rd; unfold I64 at this; omega))
      have k2 := Lib.hid (Lib.itoa_length_le i.rs1 (by have := hi.rs1; unfold I64 at this; omega) (by have := hi.rs1; unfold I64 at this; omega))
      have k3 := Lib.hid (Lib.itoa_length_le i.rs2 (by have := hi.rs2; unfold I64 at this; omega) (by have := hi.rs2; unfold I64 at this; omega))
      have k4 := Lib.hid (Lib.itoa_length_le i.imm (by have := hi.imm; unfold I64 at this; omega) (by have := hi.imm; unfold I64 at this; omega))
      obtain ⟨s0, hs0⟩ : ∃ s, nameL i.op ++ sufL i.aq i.rl = s := ⟨_, rfl⟩
      have hl0 : s0.length ≤ 14 := by rw [← hs0, List.length_append]; omega
      have htx : textL i = (((s0 ++ fldL (hasRd (formOf i.op)) [32, 120] i.rd) ++ fldL (hasRs1 (formOf i.op)) [32, 120] i.rs1) ++ fldL (hasRs2 (formOf i.op)) [32, 120] i.rs2) ++ fldL (hasImm (formOf i.op)) [32] i.imm := by unfold textL; rw [if_pos hg, hs0]
      rw [hs0] at HQ
      clear hs0 hcat hnl hsl hfit
      have c1 : W2.cell? ⟨w.heap.size, 1, none⟩ = some (.int .i64 i.rd) := HB.out.cell 1
      have HA := Lib.hid (add_any 1 i.rd p [120] s0 W1.heap.size q (hasRd (formOf i.op)) W2 (hL.below D.out) hi.rd hpb.1 HPb.out HQ.out HQ.out.lt (by omega) (by decide) (by have := k1.out; omega))
      have hl1 : (s0 ++ fldL (hasRd (formOf i.op)) (32 :: [120]) i.rd).length ≤ 39 := by have := fld_len (hasRd (formOf i.op)) (32 :: [120]) i.rd; have := k1.out; simp only [List.length_append, List.length_cons, List.length_nil] at *; omega
      generalize hs1 : s0 ++ fldL (hasRd (formOf i.op)) (32 :: [120]) i.rd = s1 at *
      go_upto_region 7 with (go_at_call 26; refine HA.out.mono ?_; clear HA; rintro e W3 ⟨rfl, bQ, gQ⟩; replace HB := Lib.hid (show Blk W3 w.heap.size i.cells 33 from (gQ.block _ HB.out.lt (fun e => hgq (by injection e))).trans HB.out); replace HPb := Lib.hid (show Blk W3 W1.heap.size #[.int .i64 p] 3 from (gQ.block _ HPb.out.lt (fun e => hgr (by injection e))).trans HPb.out); replace D := Lib.hid (D.out.grown gQ D.out.size (fun k e => by injection e with e; omega)); have HQ1 := Lib.hid bQ; clear gQ bQ c1)
      replace HQ := HQ1
      clear HQ1
      have c2 : W3.cell? ⟨w.heap.size, 2, none⟩ = some (.int .i64 i.rs1) := HB.out.cell 2
      have HA := Lib.hid (add_any 2 i.rs1 p [120] s1 W1.heap.size q (hasRs1 (formOf i.op)) W3 (hL.below D.out) hi.rs1 hpb.2.1 HPb.out HQ.out HQ.out.lt (by omega) (by decide) (by have := k2.out; omega))
      have hl2 : (s1 ++ fldL (hasRs1 (formOf i.op)) (32 :: [120]) i.rs1).length ≤ 64 := by have := fld_len (hasRs1 (formOf i.op)) (32 :: [120]) i.rs1; have := k2.out; simp only [List.length_append, List.length_cons, List.length_nil] at *; omega
      generalize hs2 : s1 ++ fldL (hasRs1 (formOf i.op)) (32 :: [120]) i.rs1 = s2 at *
      go_upto_region 8 with (go_at_call 26; refine HA.out.mono ?_; clear HA; rintro e W4 ⟨rfl, bQ, gQ⟩; replace HB := Lib.hid (show Blk W4 w.heap.size i.cells 33 from (gQ.block _ HB.out.lt (fun e => hgq (by injection e))).trans HB.out); replace HPb := Lib.hid (show Blk W4 W1.heap.size #[.int .i64 p] 3 from (gQ.block _ HPb.out.lt (fun e => hgr (by injection e))).trans HPb.out); replace D := Lib.hid (D.out.grown gQ D.out.size (fun k e => by injection e with e; omega)); have HQ2 := Lib.hid bQ; clear gQ bQ c2)
      replace HQ := HQ2
      clear HQ2
      have c3 : W4.cell? ⟨w.heap.size, 3, none⟩ = some (.int .i64 i.rs2) := HB.out.cell 3
      have HA := Lib.hid (add_any 4 i.rs2 p [120] s2 W1.heap.size q (hasRs2 (formOf i.op)) W4 (hL.below D.out) hi.rs2 hpb.2.2.1 HPb.out HQ.out HQ.out.lt (by omega) (by decide) (by have := k3.out; omega))
      have hl3 : (s2 ++ fldL (hasRs2 (formOf i.op)) (32 :: [120]) i.rs2).length ≤ 89 := by have := fld_len (hasRs2 (formOf i.op)) (32 :: [120]) i.rs2; have := k3.out; simp only [List.length_append, List.length_cons, List.length_nil] at *; omega
      generalize hs3 : s2 ++ fldL (hasRs2 (formOf i.op)) (32 :: [120]) i.rs2 = s3 at *
      go_upto_region 9 with (go_at_call 26; refine HA.out.mono ?_; clear HA; rintro e W5 ⟨rfl, bQ, gQ⟩; replace HB := Lib.hid (show Blk W5 w.heap.size i.cells 33 from (gQ.block _ HB.out.lt (fun e => hgq (by injection e))).trans HB.out); replace HPb := Lib.hid (show Blk W5 W1.heap.size #[.int .i64 p] 3 from (gQ.block _ HPb.out.lt (fun e => hgr (by injection e))).trans HPb.out); replace D := Lib.hid (D.out.grown gQ D.out.size (fun k e => by injection e with e; omega)); have HQ3 := Lib.hid bQ; clear gQ bQ c3)
      replace HQ := HQ3
      clear HQ3
      have c4 : W5.cell? ⟨w.heap.size, 4, none⟩ = some (.int .i64 i.imm) := HB.out.cell 4
      have HA := Lib.hid (add_any 8 i.imm p [] s3 W1.heap.size q (hasImm (formOf i.op)) W5 (hL.below D.out) hi.imm hpb.2.2.2 HPb.out HQ.out HQ.out.lt (by omega) (by decide) (by have := k4.out; omega))
      have hl4 : (s3 ++ fldL (hasImm (formOf i.op)) (32 :: []) i.imm).length ≤ 114 := by have := fld_len (hasImm (formOf i.op)) (32 :: []) i.imm; have := k4.out; simp only [List.length_append, List.length_cons, List.length_nil] at *; omega
      generalize hs4 : s3 ++ fldL (hasImm (formOf i.op)) (32 :: []) i.imm = s4 at *
      go_upto_region 10 with (go_at_call 26; refine HA.out.mono ?_; clear HA; rintro e W6 ⟨rfl, bQ, gQ⟩; replace HB := Lib.hid (show Blk W6 w.heap.size i.cells 33 from (gQ.block _ HB.out.lt (fun e => hgq (by injection e))).trans HB.out); replace HPb := Lib.hid (show Blk W6 W1.heap.size #[.int .i64 p] 3 from (gQ.block _ HPb.out.lt (fun e => hgr (by injection e))).trans HPb.out); replace D := Lib.hid (D.out.grown gQ D.out.size (fun k e => by injection e with e; omega)); have HQ4 := Lib.hid bQ; clear gQ bQ c4)
      replace HQ := HQ4
      clear HQ4
      have cq : W6.cell? ⟨q, 0, none⟩ = some (.string ⟨s4.toArray⟩) := HQ.out.cell 0
      have ht := Lib.hid htx
      clear htx hs1 hs2 hs3 hs4
      go_wp2_with fail
      go_ret
      exact ⟨by rw [ht.out]; rfl, D.out⟩
end Go.Proofs.YtihcljaphajdfaaGreatDoor.Hand
