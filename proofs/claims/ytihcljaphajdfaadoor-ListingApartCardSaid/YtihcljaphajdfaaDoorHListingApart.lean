/- DERIVED. DERIVED. ListingApart: the walk of the law. -/
import Derived.Test.YtihcljaphajdfaaDoorProg
import Derived.Test.YtihcljaphajdfaaDoorMBits
import Derived.Test.YtihcljaphajdfaaDoorMWalk
import Derived.Test.YtihcljaphajdfaaDoorMTab
import Derived.Test.YtihcljaphajdfaaDoorMInst
import Derived.Test.YtihcljaphajdfaaDoorMDec
import Derived.Test.YtihcljaphajdfaaDoorMDec2
import Derived.Test.YtihcljaphajdfaaDoorMQTail
import Derived.Test.YtihcljaphajdfaaDoorMArg
import Derived.Test.YtihcljaphajdfaaDoorMRow
import Derived.Test.YtihcljaphajdfaaDoorMOpen
import Derived.Test.YtihcljaphajdfaaDoorMPart
import Derived.Test.YtihcljaphajdfaaDoorMStore
import Derived.Test.YtihcljaphajdfaaDoorMReg
import Derived.Test.YtihcljaphajdfaaDoorHL
import Derived.Test.YtihcljaphajdfaaDoorPAllx3
import Derived.Test.YtihcljaphajdfaaDoorPAllx4
import Derived.Test.YtihcljaphajdfaaDoorPAllx6
import Derived.Test.YtihcljaphajdfaaDoorPAllx9
import Derived.Test.YtihcljaphajdfaaDoorPAllx11
import Derived.Below
import Derived.Deep.Draws
import Derived.Deep.AppendLies
import Derived.Maps.AppendAt
import Derived.OwnWalk
import Derived.Laws.BytesArg
import Derived.Laws.MakeOwn
import Derived.Laws.OwnMore
import Derived.Deep.OwnRows
import Derived.Tactics
import Derived.Lib.ConvBytes
import Derived.Laws.Slices
import Derived.WalkKit
import Derived.KernelRfl
import Derived.RowKit3
import Derived.Deep.LoopGhost
import Derived.Deep.QuietTactic
import Derived.BigQuiet
import Derived.WideLaws
import Derived.Deep.DeepCutAuto
import Derived.Deep.CutBlock
import Derived.Deep.RegionHeld3
import Derived.Laws.Rows
import Derived.Lib.AppendStr
import Derived.ArgAppend
import Derived.Laws.IdiomCopy
import Derived.OrdersHeld
import Derived.Laws.BitsLemmas
import Derived.Laws.Bits64
import Derived.RowKit
import Derived.Outline
import Derived.Handy
import Derived.Lib.Hide
import Derived.Deep.Light
import Derived.Laws.CopyOwn
import Derived.Lib.ItoaLen
import Derived.Deep.CutRange
import Derived.StillTail
import Derived.Shelf.RegionOpen
import Derived.Lib.QuietBelow
import Derived.Lib.AppendIntMem
import Derived.Laws.AppendOwnNone
import Derived.Shelf.Strings.Prefix
import Derived.Shelf.Strings.Split
import Derived.Shelf.Strings.Cut
import Derived.Shelf.Strings.Builder1
import Derived.Shelf.Strconv.AtoiAll
import Derived.Shelf.Strconv.Itoa3
import Derived.Ground.NamesProg
import Derived.Lib.AtoiTie
import Derived.Lib.AtoiErrMem
import Derived.Shelf.Vars
namespace Go.Proofs.YtihcljaphajdfaaDoor.Hand
open Go Go.RowKit Go.Proofs.YtihcljaphajdfaaDoor.M Go.Proofs.YtihcljaphajdfaaDoor.PAll Go.Proofs.YtihcljaphajdfaaDoorW.PrintWords
set_option linter.unusedVariables false
set_option linter.unusedSimpArgs false
attribute [local go_sem] Oper.semAt_some
theorem textL_len (i : Ins) (hi : i.Ok) : (textL i).length < 1000 := by
  have l : ∀ n, I64 n → (Lib.itoa n).length ≤ 21 := fun n h => Lib.itoa_length_le n h.1 h.2
  have h1 := name_len i.op
  have h2 := suf_len i.aq i.rl
  have h3 := fld_len (hasRd (formOf i.op)) [32, 120] i.rd
  have h4 := fld_len (hasRs1 (formOf i.op)) [32, 120] i.rs1
  have h5 := fld_len (hasRs2 (formOf i.op)) [32, 120] i.rs2
  have h6 := fld_len (hasImm (formOf i.op)) [32] i.imm
  have l1 := l _ hi.rd
  have l2 := l _ hi.rs1
  have l3 := l _ hi.rs2
  have l4 := l _ hi.imm
  simp only [List.length_cons, List.length_nil] at h3 h4 h5 h6
  unfold textL
  split
  · simp only [List.length_append]; omega
  · exact Nat.zero_lt_succ _
set_option maxRecDepth 100000 in
set_option maxHeartbeats 1500000 in
theorem apart_any (i j : Ins) (hi : i.Ok) (hj : j.Ok) (w : World) (hL : LaidOk w) : Calls Tryd.prog 5 #[.agg i.cells, .agg j.cells] w fun e w' => e = .returned (.bool true) ∧ Below w.heap.size w w' := by
  have hL' := Lib.hid hL
  clear hL
  have HG := Lib.hid fun W => rGood_any i hi W
  have HJ := Lib.hid fun W => rGood_any j hj W
  unfold Ins.cells at HG HJ ⊢
  go_enter Tryd.func5, Tryd.ntmps5
  go_upto_region 1 with fail
  generalize hX : World.alloc w _ = X0
  obtain ⟨B, dX0, sX0⟩ := arg_box (cs := i.cells) hX
  clear hX
  generalize hX : World.alloc X0 _ = X
  obtain ⟨C, dX, sX⟩ := arg_box (cs := j.cells) hX
  clear hX
  rw [← sX0] at C
  have hLX := Lib.hid (hL'.out.below (dX0.trans (dX.mono dX0.size)))
  have HB : Hid (∀ V, (∃ pp : Regrown, V = Sort.grow (redrawn X pp.d) pp.os) → Blk V w.heap.size i.cells 23) := Lib.hid fun V hV => by
    obtain ⟨pp, rfl⟩ := hV
    exact (B.below dX).below (below_regrown X pp.d pp.os)
  have HC : Hid (∀ V, (∃ pp : Regrown, V = Sort.grow (redrawn X pp.d) pp.os) → Blk V (w.heap.size + 1) j.cells 23) := Lib.hid fun V hV => by
    obtain ⟨pp, rfl⟩ := hV
    exact C.below (below_regrown X pp.d pp.os)
  have HT := Lib.hid fun (d : Nat) (os : Array Obj) => Calls.regrown_of (Text_any i hi _ (hLX.out.below (below_regrown X d os)))
  have HU := Lib.hid fun (d : Nat) (os : Array Obj) => Calls.regrown_of (Text_any j hj _ (hLX.out.below (below_regrown X d os)))
  unfold Ins.cells at HT HU
  refine wp_region_quiet_below (by kernel_rfl) (by kernel_rfl) ?_
  refine wpQuiet_load rfl 23 (.tmp 2) rfl ⟨w.heap.size, 0, none⟩ rfl i.cells _ (fun V hV => (HB.out V hV).whole) Tryd.underlying23 rfl ins_info ?_
  unfold Ins.cells
  try simp only [List.getElem_toArray, List.getElem_cons_succ, List.getElem_cons_zero, Act.put, List.setIfInBounds_toArray, List.set_cons_succ, List.set_cons_zero]
  go_big_quiet_step (exact HT.out _ _)
  refine wpQuiet_load rfl 23 (.tmp 3) rfl ⟨w.heap.size + 1, 0, none⟩ rfl j.cells _ (fun V hV => (HC.out V hV).whole) Tryd.underlying23 rfl ins_info ?_
  unfold Ins.cells
  try simp only [List.getElem_toArray, List.getElem_cons_succ, List.getElem_cons_zero, Act.put, List.setIfInBounds_toArray, List.set_cons_succ, List.set_cons_zero]
  go_big_quiet_step (exact HU.out _ _)
  go_big_quiet_step (fail)
  go_big_quiet_step (fail)
  refine wpQuiet_nil ?_
  intro _ hw'
  obtain ⟨⟨dq, osq⟩, hw''⟩ := hw'
  subst hw''
  have D := Lib.hid ((dX0.trans (dX.mono dX0.size)).trans ((below_regrown X dq osq).mono (dX0.trans (dX.mono dX0.size)).size))
  replace HB := Lib.hid (HB.out _ ⟨⟨dq, osq⟩, rfl⟩)
  replace HC := Lib.hid (HC.out _ ⟨⟨dq, osq⟩, rfl⟩)
  clear HT HU dX0 dX B C sX0 sX
  generalize Sort.grow (redrawn X dq) osq = Y at *
  have HLY := Lib.hid fun (W : World) (d : Below w.heap.size w W) => lives_any W (hL'.out.below d)
  have f0 : Y.cell? ⟨w.heap.size, 0, none⟩ = some (.int .i64 i.op) := HB.out.cell 0
  have f1 : Y.cell? ⟨w.heap.size, 1, none⟩ = some (.int .i64 i.rd) := HB.out.cell 1
  have f2 : Y.cell? ⟨w.heap.size, 2, none⟩ = some (.int .i64 i.rs1) := HB.out.cell 2
  have f3 : Y.cell? ⟨w.heap.size, 3, none⟩ = some (.int .i64 i.rs2) := HB.out.cell 3
  have f4 : Y.cell? ⟨w.heap.size, 4, none⟩ = some (.int .i64 i.imm) := HB.out.cell 4
  have f5 : Y.cell? ⟨w.heap.size, 5, none⟩ = some (.bool i.aq) := HB.out.cell 5
  have f6 : Y.cell? ⟨w.heap.size, 6, none⟩ = some (.bool i.rl) := HB.out.cell 6
  cases hgi : i.good
  · rw [hgi] at HG
    go_upto_region 3 with (go_at_call 12; refine (HG.out _).mono ?_; clear HG; rintro e W ⟨rfl, dW⟩; replace D := Lib.hid (D.out.trans (dW.mono D.out.size)); clear dW)
    clear f0 f1 f2 f3 f4 f5 f6
    go_wp2_with (go_at_call 9; refine (HLY.out _ D.out).mono ?_; clear HLY; rintro e W ⟨rfl, dW⟩; replace D := Lib.hid (D.out.trans (dW.mono D.out.size)); clear dW)
    go_ret
    exact ⟨rfl, D.out⟩
  · rw [hgi] at HG
    have g0 : Y.cell? ⟨w.heap.size + 1, 0, none⟩ = some (.int .i64 j.op) := HC.out.cell 0
    have g1 : Y.cell? ⟨w.heap.size + 1, 1, none⟩ = some (.int .i64 j.rd) := HC.out.cell 1
    have g2 : Y.cell? ⟨w.heap.size + 1, 2, none⟩ = some (.int .i64 j.rs1) := HC.out.cell 2
    have g3 : Y.cell? ⟨w.heap.size + 1, 3, none⟩ = some (.int .i64 j.rs2) := HC.out.cell 3
    have g4 : Y.cell? ⟨w.heap.size + 1, 4, none⟩ = some (.int .i64 j.imm) := HC.out.cell 4
    have g5 : Y.cell? ⟨w.heap.size + 1, 5, none⟩ = some (.bool j.aq) := HC.out.cell 5
    have g6 : Y.cell? ⟨w.heap.size + 1, 6, none⟩ = some (.bool j.rl) := HC.out.cell 6
    cases hgj : j.good
    · rw [hgj] at HJ
      go_wp2_with (refine wpList_load_row rfl 23 (.tmp 2) rfl w.heap.size rfl 23 _ _ _ HB.out Tryd.underlying23 rfl ins_info ?_)
      refine (HG.out _).mono ?_
      clear HG f0 f1 f2 f3 f4 f5 f6 g0 g1 g2 g3 g4 g5 g6
      rintro e W ⟨rfl, dW⟩
      replace HB := Lib.hid (HB.out.below dW)
      replace HC := Lib.hid (HC.out.below dW)
      replace D := Lib.hid (D.out.trans (dW.mono D.out.size))
      clear dW
      have g0 : W.cell? ⟨w.heap.size + 1, 0, none⟩ = some (.int .i64 j.op) := HC.out.cell 0
      have g1 : W.cell? ⟨w.heap.size + 1, 1, none⟩ = some (.int .i64 j.rd) := HC.out.cell 1
      have g2 : W.cell? ⟨w.heap.size + 1, 2, none⟩ = some (.int .i64 j.rs1) := HC.out.cell 2
      have g3 : W.cell? ⟨w.heap.size + 1, 3, none⟩ = some (.int .i64 j.rs2) := HC.out.cell 3
      have g4 : W.cell? ⟨w.heap.size + 1, 4, none⟩ = some (.int .i64 j.imm) := HC.out.cell 4
      have g5 : W.cell? ⟨w.heap.size + 1, 5, none⟩ = some (.bool j.aq) := HC.out.cell 5
      have g6 : W.cell? ⟨w.heap.size + 1, 6, none⟩ = some (.bool j.rl) := HC.out.cell 6
      go_wp2_with fail
      refine (HJ.out _).mono ?_
      clear HJ g0 g1 g2 g3 g4 g5 g6
      rintro e V ⟨rfl, dW⟩
      replace D := Lib.hid (D.out.trans (dW.mono D.out.size))
      clear dW
      go_wp2_with (go_at_call 9; refine (HLY.out _ D.out).mono ?_; clear HLY; rintro e W ⟨rfl, dW⟩; replace D := Lib.hid (D.out.trans (dW.mono D.out.size)); clear dW)
      go_ret
      exact ⟨rfl, D.out⟩
    · rw [hgj] at HJ
      have hln := textL_line hgi
      have hne := textL_ne hgi
      have hinj := Lib.hid (@textL_inj i j hgi hgj)
      go_wp2_with (refine wpList_load_row rfl 23 (.tmp 2) rfl w.heap.size rfl 23 _ _ _ HB.out Tryd.underlying23 rfl ins_info ?_)
      refine (HG.out _).mono ?_
      clear HG f0 f1 f2 f3 f4 f5 f6 g0 g1 g2 g3 g4 g5 g6
      rintro e W ⟨rfl, dW⟩
      replace HB := Lib.hid (HB.out.below dW)
      replace HC := Lib.hid (HC.out.below dW)
      replace D := Lib.hid (D.out.trans (dW.mono D.out.size))
      clear dW
      have g0 : W.cell? ⟨w.heap.size + 1, 0, none⟩ = some (.int .i64 j.op) := HC.out.cell 0
      have g1 : W.cell? ⟨w.heap.size + 1, 1, none⟩ = some (.int .i64 j.rd) := HC.out.cell 1
      have g2 : W.cell? ⟨w.heap.size + 1, 2, none⟩ = some (.int .i64 j.rs1) := HC.out.cell 2
      have g3 : W.cell? ⟨w.heap.size + 1, 3, none⟩ = some (.int .i64 j.rs2) := HC.out.cell 3
      have g4 : W.cell? ⟨w.heap.size + 1, 4, none⟩ = some (.int .i64 j.imm) := HC.out.cell 4
      have g5 : W.cell? ⟨w.heap.size + 1, 5, none⟩ = some (.bool j.aq) := HC.out.cell 5
      have g6 : W.cell? ⟨w.heap.size + 1, 6, none⟩ = some (.bool j.rl) := HC.out.cell 6
      go_wp2_with fail
      refine (HJ.out _).mono ?_
      clear HJ g0 g1 g2 g3 g4 g5 g6
      rintro e V ⟨rfl, dW⟩
      replace HB := Lib.hid (HB.out.below dW)
      replace HC := Lib.hid (HC.out.below dW)
      replace D := Lib.hid (D.out.trans (dW.mono D.out.size))
      clear dW
      go_wp2_with fail
      clear hgi hgj
      obtain ⟨lt, hlt⟩ : ∃ lt, textL i = lt := ⟨_, rfl⟩
      have hll : lt.length < 1000 := hlt ▸ textL_len i hi
      rw [hlt] at hln hne hinj ⊢
      go_loop [23] (fun k => ∃ n : Nat, k = .int .i64 n ∧ n ≤ lt.length) (fun k => lt.length - (intOf k).toNat)
      case atStart => exact ⟨0, rfl, Nat.zero_le _⟩
      case round =>
        obtain ⟨n, rfl, hn⟩ := hrel
        by_cases hnl : n < lt.length
        · have hsz : n < (⟨lt.toArray⟩ : ByteArray).size := by show n < lt.toArray.size; simpa using hnl
          have hq : ((((⟨lt.toArray⟩ : ByteArray)[n]'hsz).toNat : Int) == 10) = false := by
            have h1 : (⟨lt.toArray⟩ : ByteArray)[n]'hsz = lt[n] := by show lt.toArray[n] = _; simp
            rw [h1]
            have h2 := hln lt[n] (List.getElem_mem _)
            rw [beq_eq_false_iff_ne]
            intro e
            exact h2 (UInt8.toNat_inj.1 (by have h3 : (10 : UInt8).toNat = 10 := rfl; omega))
          have hw64 : wrap64 ((n : Int) + 1) = (n : Int) + 1 := by simp only [wrap64]; omega
          go_wp2_with fail
          go_round
          case rel => exact ⟨n + 1, by first | (rw [hw64]; simp) | simp, by omega⟩
          case measure => first | (rw [hw64]; simp [intOf]; omega) | (simp [intOf]; omega)
        · have hie : lt.isEmpty = false := by rw [List.isEmpty_eq_false_iff]; exact hne
          clear hln
          have f0 : V.cell? ⟨w.heap.size, 0, none⟩ = some (.int .i64 i.op) := HB.out.cell 0
          have f1 : V.cell? ⟨w.heap.size, 1, none⟩ = some (.int .i64 i.rd) := HB.out.cell 1
          have f2 : V.cell? ⟨w.heap.size, 2, none⟩ = some (.int .i64 i.rs1) := HB.out.cell 2
          have f3 : V.cell? ⟨w.heap.size, 3, none⟩ = some (.int .i64 i.rs2) := HB.out.cell 3
          have f4 : V.cell? ⟨w.heap.size, 4, none⟩ = some (.int .i64 i.imm) := HB.out.cell 4
          have f5 : V.cell? ⟨w.heap.size, 5, none⟩ = some (.bool i.aq) := HB.out.cell 5
          have f6 : V.cell? ⟨w.heap.size, 6, none⟩ = some (.bool i.rl) := HB.out.cell 6
          have g0 : V.cell? ⟨w.heap.size + 1, 0, none⟩ = some (.int .i64 j.op) := HC.out.cell 0
          have g1 : V.cell? ⟨w.heap.size + 1, 1, none⟩ = some (.int .i64 j.rd) := HC.out.cell 1
          have g2 : V.cell? ⟨w.heap.size + 1, 2, none⟩ = some (.int .i64 j.rs1) := HC.out.cell 2
          have g3 : V.cell? ⟨w.heap.size + 1, 3, none⟩ = some (.int .i64 j.rs2) := HC.out.cell 3
          have g4 : V.cell? ⟨w.heap.size + 1, 4, none⟩ = some (.int .i64 j.imm) := HC.out.cell 4
          have g5 : V.cell? ⟨w.heap.size + 1, 5, none⟩ = some (.bool j.aq) := HC.out.cell 5
          have g6 : V.cell? ⟨w.heap.size + 1, 6, none⟩ = some (.bool j.rl) := HC.out.cell 6
          by_cases hab : i = j
          · subst hab
            rw [hlt]
            go_wp2_with (go_at_call 9; refine (HLY.out _ D.out).mono ?_; rintro e W2 ⟨rfl, dW⟩)
            all_goals (go_ret; exact ⟨rfl, D.out.trans (dW.mono D.out.size)⟩)
          · have hlt2 : (lt == textL j) = false := beq_eq_false_iff_ne.2 (fun e => hab (hinj.out e))
            go_wp2_with (go_at_call 9; refine (HLY.out _ D.out).mono ?_; rintro e W2 ⟨rfl, dW⟩)
            all_goals (first
              | (go_ret; exact ⟨rfl, D.out.trans (dW.mono D.out.size)⟩)
              | (exfalso; apply hab; obtain ⟨i1, i2, i3, i4, i5, i6, i7⟩ := i; obtain ⟨j1, j2, j3, j4, j5, j6, j7⟩ := j; simp_all))
theorem ListingApart.all (a0 a1 a2 a3 a4 : Int) (b0 b1 : Bool) (c0 c1 c2 c3 c4 : Int) (d0 d1 : Bool) (w : World) (hL : LaidOk w) (w0 : (Lit.int .i64 a0).wf = true) (w1 : (Lit.int .i64 a1).wf = true) (w2 : (Lit.int .i64 a2).wf = true) (w3 : (Lit.int .i64 a3).wf = true) (w4 : (Lit.int .i64 a4).wf = true)
    (x0 : (Lit.int .i64 c0).wf = true) (x1 : (Lit.int .i64 c1).wf = true) (x2 : (Lit.int .i64 c2).wf = true) (x3 : (Lit.int .i64 c3).wf = true) (x4 : (Lit.int .i64 c4).wf = true) :
    Calls Tryd.prog 5 #[.agg #[.int .i64 a0, .int .i64 a1, .int .i64 a2, .int .i64 a3, .int .i64 a4, .bool b0, .bool b1], .agg #[.int .i64 c0, .int .i64 c1, .int .i64 c2, .int .i64 c3, .int .i64 c4, .bool d0, .bool d1]] w fun e w' => e = .returned (.bool true) ∧ Below w.heap.size w w' :=
  apart_any ⟨a0, a1, a2, a3, a4, b0, b1⟩ ⟨c0, c1, c2, c3, c4, d0, d1⟩ ⟨I64.of_wf w0, I64.of_wf w1, I64.of_wf w2, I64.of_wf w3, I64.of_wf w4⟩ ⟨I64.of_wf x0, I64.of_wf x1, I64.of_wf x2, I64.of_wf x3, I64.of_wf x4⟩ w hL
end Go.Proofs.YtihcljaphajdfaaDoor.Hand
