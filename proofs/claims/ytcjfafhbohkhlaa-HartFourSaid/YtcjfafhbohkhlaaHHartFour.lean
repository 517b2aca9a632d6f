/- DERIVED. DERIVED. Behind a step without an error register 0 is 0, and the place is a multiple of 4, if it was and the target is one. -/
import Derived.Test.YtcjfafhbohkhlaaProg
import Derived.Test.YtcjfafhbohkhlaaMBits
import Derived.Test.YtcjfafhbohkhlaaMWalk
import Derived.Test.YtcjfafhbohkhlaaMTab
import Derived.Test.YtcjfafhbohkhlaaMInst
import Derived.Test.YtcjfafhbohkhlaaMDec
import Derived.Test.YtcjfafhbohkhlaaMDec2
import Derived.Test.YtcjfafhbohkhlaaMQTail
import Derived.Test.YtcjfafhbohkhlaaMArg
import Derived.Test.YtcjfafhbohkhlaaMMem
import Derived.Test.YtcjfafhbohkhlaaMMemK
import Derived.Test.YtcjfafhbohkhlaaMMemR
import Derived.Test.YtcjfafhbohkhlaaMHart
import Derived.Test.YtcjfafhbohkhlaaMRow
import Derived.Test.YtcjfafhbohkhlaaMOpen
import Derived.Test.YtcjfafhbohkhlaaHO
import Derived.Test.YtcjfafhbohkhlaaPAllx1
import Derived.Test.YtcjfafhbohkhlaaPAllx2
import Derived.Test.YtcjfafhbohkhlaaPAllx3
import Derived.Test.YtcjfafhbohkhlaaPAllx4
import Derived.Test.YtcjfafhbohkhlaaPAllx5
import Derived.Test.YtcjfafhbohkhlaaPAllx6
import Derived.Test.YtcjfafhbohkhlaaPAllx7
import Derived.Test.YtcjfafhbohkhlaaPAllx8
import Derived.Test.YtcjfafhbohkhlaaPAllx9
import Derived.Test.YtcjfafhbohkhlaaPAllx10
import Derived.Test.YtcjfafhbohkhlaaPAllx11
import Derived.Below
import Derived.Deep.Draws
import Derived.Deep.AppendLies
import Derived.Maps.AppendAt
import Derived.OwnWalk
import Derived.Laws.BytesArg
import Derived.Laws.MakeOwn
import Derived.Laws.OwnMore
import Derived.Deep.OwnRows
import Derived.Tactics
import Derived.Lib.ConvBytes
import Derived.Laws.Slices
import Derived.WalkKit
import Derived.KernelRfl
import Derived.RowKit3
import Derived.Deep.LoopGhost
import Derived.Deep.QuietTactic
import Derived.BigQuiet
import Derived.WideLaws
import Derived.Deep.DeepCutAuto
import Derived.Deep.CutBlock
import Derived.Deep.RegionHeld3
import Derived.Laws.Rows
import Derived.Lib.AppendStr
import Derived.ArgAppend
import Derived.Laws.IdiomCopy
import Derived.OrdersHeld
import Derived.Laws.BitsLemmas
import Derived.Laws.Bits64
import Derived.RowKit
import Derived.Outline
import Derived.Handy
import Derived.Lib.Hide
import Derived.Deep.Light
import Derived.Laws.CopyOwn
namespace Go.Proofs.Ytcjfafhbohkhlaa.Hand
open Go Go.RowKit Go.Proofs.Ytcjfafhbohkhlaa.M Go.Proofs.Ytcjfafhbohkhlaa.PAll Go.Proofs.YtcjfafhbohkhlaaW.PrintWords
set_option linter.unusedVariables false
set_option linter.unusedSimpArgs false
theorem imm_even (op w : Int) (h : hit op w = true) (hop : op = 3 ∨ 5 ≤ op ∧ op ≤ 10) : decImm (formOf op) w % 2 = 0 := by
  have G := (goodI (hit_good h)).immh
  have hf : formOf op = 2 ∨ formOf op = 4 := by
    rcases hop with rfl | ⟨h1, h2⟩
    · left; decide +kernel
    · have : op = 5 ∨ op = 6 ∨ op = 7 ∨ op = 8 ∨ op = 9 ∨ op = 10 := by omega
      rcases this with rfl | rfl | rfl | rfl | rfl | rfl <;> (right; decide +kernel)
  unfold immOf at G
  generalize formOf op = f at *
  generalize decImm f w = n at *
  rcases hf with rfl | rfl <;> simp at G <;> omega
theorem target_even (op imm pc a : Int) (hp : pc % 4 = 0) (hi : op = 3 ∨ 5 ≤ op ∧ op ≤ 10 → imm % 2 = 0) : targetOf op imm pc a % 2 = 0 := by
  unfold targetOf
  split
  · next h => have := hi h; simp only [u64w]; omega
  split
  · obtain ⟨x, e, hx⟩ := (U64.wrap (a + IntKind.u64.wrap imm)).nat
    rw [e, show (1 : Int) = ((1 : Nat) : Int) from rfl, andNot_nat x 1 hx (by decide)]
    have := testBit_minus x 1 0 hx (by decide)
    rw [show Nat.testBit 1 0 = true by decide, Bool.not_true, Bool.and_false, Nat.testBit_zero] at this
    simp at this; omega
  · simp only [u64w]; omega
theorem set_reg0 (h : HartS) (k : h.Ok) (v : Int) : (h.set 0 v).reg 0 = v := by
  unfold HartS.set HartS.reg
  have := k.1
  simp [List.getElem?_set, this]
theorem do_four (y : HartS) (bs : List Int) (op rd rs1 rs2 imm : Int) (k : y.Ok) (hb : Bytes bs) (hp : y.pc % 4 = 0) (hi : op = 3 ∨ 5 ≤ op ∧ op ≤ 10 → imm % 2 = 0) :
    ((doOf y bs op rd rs1 rs2 imm).2.2 ≠ 0 → (doOf y bs op rd rs1 rs2 imm).1 = y) ∧ ((doOf y bs op rd rs1 rs2 imm).2.2 = 0 → (doOf y bs op rd rs1 rs2 imm).1.reg 0 = 0 ∧ (doOf y bs op rd rs1 rs2 imm).1.pc % 2 = 0) := by
  have ko : (y.set 0 0).Ok := k.set 0 0 (by decide)
  have ha := ko.reg rs1
  have hb2 := ko.reg rs2
  have tk := touch_ok (y.set 0 0) bs op (addrOf op imm ((y.set 0 0).reg rs1)) (PAll.sizeOf op) ((y.set 0 0).reg rs2) ko hb (addr_range _ _ _ ha) (by have := size_range op; exact ⟨by omega, by omega⟩)
  have vr := value_range op imm y.pc _ _ ha hb2
  have te := target_even op imm y.pc ((y.set 0 0).reg rs1) hp hi
  unfold doOf
  dsimp only
  have key : U64 (if 0 < PAll.sizeOf op then touchAt (y.set 0 0) bs op (addrOf op imm ((y.set 0 0).reg rs1)) (PAll.sizeOf op) ((y.set 0 0).reg rs2) else ((valueOf op imm y.pc ((y.set 0 0).reg rs1) ((y.set 0 0).reg rs2)).1, 0, y.set 0 0, bs)).1 ∧ (if 0 < PAll.sizeOf op then touchAt (y.set 0 0) bs op (addrOf op imm ((y.set 0 0).reg rs1)) (PAll.sizeOf op) ((y.set 0 0).reg rs2) else ((valueOf op imm y.pc ((y.set 0 0).reg rs1) ((y.set 0 0).reg rs2)).1, 0, y.set 0 0, bs)).2.2.1.Ok := by
    split
    · exact tk
    · exact ⟨vr, ko⟩
  generalize (if 0 < PAll.sizeOf op then touchAt (y.set 0 0) bs op (addrOf op imm ((y.set 0 0).reg rs1)) (PAll.sizeOf op) ((y.set 0 0).reg rs2) else ((valueOf op imm y.pc ((y.set 0 0).reg rs1) ((y.set 0 0).reg rs2)).1, 0, y.set 0 0, bs)) = t at *
  have up : U64 (if 5 ≤ op ∧ op ≤ 10 ∧ takenOf op ((y.set 0 0).reg rs1) ((y.set 0 0).reg rs2) = false then IntKind.u64.wrap (y.pc + 4) else targetOf op imm y.pc ((y.set 0 0).reg rs1)) := by
    split
    · exact U64.wrap _
    · exact target_range _ _ _ _
  have ev : (if 5 ≤ op ∧ op ≤ 10 ∧ takenOf op ((y.set 0 0).reg rs1) ((y.set 0 0).reg rs2) = false then IntKind.u64.wrap (y.pc + 4) else targetOf op imm y.pc ((y.set 0 0).reg rs1)) % 2 = 0 := by
    split
    · simp only [u64w]; omega
    · exact te
  split
  · next h => exact ⟨fun _ => rfl, fun e => absurd e h⟩
  · exact ⟨fun e => absurd rfl e, fun _ => ⟨set_reg0 _ ((key.2.pc _ up).set _ _ key.1) 0, ev⟩⟩
theorem step_four (y : HartS) (bs : List Int) (k : y.Ok) (hb : Bytes bs) :
    ((stepOf y bs).2.2 ≠ 0 → (stepOf y bs).1 = y) ∧ ((stepOf y bs).2.2 = 0 → (stepOf y bs).1.reg 0 = 0 ∧ y.pc % 4 = 0 ∧ (stepOf y bs).1.pc % 2 = 0) := by
  unfold stepOf
  split
  · next h => exact ⟨fun _ => rfl, fun e => absurd e h⟩
  next hE =>
  have hp : y.pc % 4 = 0 := (numE_ok.1 (Decidable.not_not.1 hE)).2.1
  dsimp only
  split
  · exact ⟨fun _ => rfl, fun e => absurd (show (21 : Int) = 0 from e) (by decide)⟩
  next h0 =>
  split
  · exact ⟨fun _ => rfl, fun e => absurd (show (60 : Int) = 0 from e) (by decide)⟩
  · have D := do_four y bs (decOp (IntKind.u32.wrap (loadOf bs y.pc 4))) (decRd (decOp (IntKind.u32.wrap (loadOf bs y.pc 4))) (IntKind.u32.wrap (loadOf bs y.pc 4))) (decRs1 (decOp (IntKind.u32.wrap (loadOf bs y.pc 4))) (IntKind.u32.wrap (loadOf bs y.pc 4))) (decRs2 (decOp (IntKind.u32.wrap (loadOf bs y.pc 4))) (IntKind.u32.wrap (loadOf bs y.pc 4))) (decImm (formOf (decOp (IntKind.u32.wrap (loadOf bs y.pc 4)))) (IntKind.u32.wrap (loadOf bs y.pc 4))) k hb hp (imm_even _ _ (decOp_hit _ h0))
    exact ⟨D.1, fun e => ⟨(D.2 e).1, hp, (D.2 e).2⟩⟩
set_option maxHeartbeats 16000000 in
set_option maxRecDepth 100000 in
theorem HartFour.all (y : HartS) (a1 : Int) (A : Option Addr) (n c : Nat) (l : List InstS) (w : World) (hk : y.Ok) (w1 : (Lit.int .i64 a1).wf = true) (hr : InstRow w A l) (hl : l.length = n) (hi : ∀ i ∈ l, I64 i.imm) (hn : n ≤ 9223372036854775807) :
    Calls Try.prog 3 #[.agg y.cells, .int .i64 a1, .slice A n c] w fun e w' => e = .returned (.bool true) ∧ Below w.heap.size w w' := by
  have HK := Lib.hid hk
  have HR := Lib.hid hr
  have HI := Lib.hid hi
  have HL := Lib.hid hl
  clear hk hr hi hl
  by_cases hn : n ≤ 200
  · go_enter Try.func3, Try.ntmps3
    go_wp2_with fail
    generalize hX : World.alloc w _ = X
    obtain ⟨B, d, hsX⟩ := arg_box hX
    have HB := Lib.hid B
    have HD := Lib.hid d
    clear hX B d
    refine (laid_any a1 A n c l X HL.out hn (HR.out.below HD.out) HI.out).mono ?_
    rintro e W1 ⟨g, q, gr, qr, rfl, M, F, hg, hq, _, _, _, _, _, d⟩
    have HM := Lib.hid M
    have HB1 := Lib.hid (HB.out.below d)
    have HD1 := Lib.hid (HD.out.trans (d.mono HD.out.size))
    generalize laidTo (sizeAt a1) l n = bs at *
    clear M F d HB HD
    go_wp2_with (refine wpList_load_row rfl 25 _ rfl w.heap.size rfl 25 _ _ _ HB1.out Try.underlying25 rfl (hart_info.trans (congrArg some (HartS.size HK.out).symm)) ?_)
    have hql : w.heap.size + 1 ≤ q := by omega
    have hB1l := HB1.out.lt
    have hS1 := HD1.out.size
    refine (step_any y g q bs W1 HK.out HM.out).mono ?_
    rintro e W2 ⟨rfl, hM, hG⟩
    have FM := step_four y bs HK.out HM.out.2.2.1
    have KO := Lib.hid (step_ok y bs HK.out HM.out.2.2.1)
    have HB2 : Hid (Blk W2 w.heap.size y.cells 25) := Lib.hid ((hG.block _ hB1l (fun e => by injection e with e; omega)).trans HB1.out)
    have HD2 := Lib.hid (below_grown HD1.out hG (by omega) hS1)
    clear hM hG HM HB1 HD1 hql hg hq hsX
    obtain ⟨f1, f2⟩ := FM
    generalize stepOf y bs = r at *
    obtain ⟨x, bs1, er⟩ := r
    dsimp only at *
    by_cases he : er = 0
    · subst he
      obtain ⟨g1, g2, g3⟩ := f2 rfl
      have g4 : 0 ≤ x.pc ∧ 0 ≤ y.pc := ⟨KO.out.2.1.1, HK.out.2.1.1⟩
      have t1 : Int.tmod y.pc 4 = 0 := by rw [Int.tmod_eq_emod_of_nonneg g4.2]; exact g2
      have t2 : Int.tmod x.pc 2 = 0 := by rw [Int.tmod_eq_emod_of_nonneg g4.1]; exact g3
      have c1 := HartS.cx KO.out 0 (by decide)
      rw [show ((0 : Nat) : Int) = 0 from rfl, g1] at c1
      have c2 := x.c0
      have c3 := y.c0
      have e1 : x.pc % 2 = 0 := g3
      clear f1 f2 g1 g3
      go_wp2_with (first | (refine wpList_store_row rfl 25 _ _ rfl (W2.heap.size) _ rfl rfl 25 _ (Blk.new _ _ _) (hart_info.trans (congrArg some (HartS.size KO.out).symm)) (HartS.size KO.out).symm (HartS.one _) ?_; (generalize hZ : World.setRow _ _ _ = Z; obtain ⟨b5, d5, _⟩ := hart_new hZ; have B5 := b5.cell; have C5 := (HB2.out.below d5).cell; have HD5 := Lib.hid (HD2.out.trans (d5.mono HD2.out.size)); clear hZ b5 d5)) | (go_at_call 7; refine (c_lives _).mono ?_; rintro e w' ⟨rfl, d7⟩))
      all_goals
        go_ret
        exact ⟨rfl, HD5.out.trans (d7.mono HD5.out.size)⟩
    · have de : (er != 0) = true := by simpa using he
      obtain rfl := f1 he
      clear f1 f2 he
      go_wp2_with (first | (refine wpList_store_row rfl 25 _ _ rfl (W2.heap.size) _ rfl rfl 25 _ (Blk.new _ _ _) (hart_info.trans (congrArg some (HartS.size KO.out).symm)) (HartS.size KO.out).symm (HartS.one _) ?_; (generalize hZ : World.setRow _ _ _ = Z; obtain ⟨b5, d5, _⟩ := hart_new hZ; have B5 := Lib.hid b5; have C5 := Lib.hid (HB2.out.below d5); have HD5 := Lib.hid (HD2.out.trans (d5.mono HD2.out.size)); clear hZ b5 d5)) | (refine wpList_load_row rfl 25 _ rfl (W2.heap.size) rfl 25 _ _ _ B5.out Try.underlying25 rfl (hart_info.trans (congrArg some (HartS.size HK.out).symm)) ?_) | (refine wpList_load_row rfl 25 _ rfl (w.heap.size) rfl 25 _ _ _ C5.out Try.underlying25 rfl (hart_info.trans (congrArg some (HartS.size HK.out).symm)) ?_) | (refine wpList_eql rfl _ _ _ _ rfl _ _ rfl rfl (by kernel_rfl) true (eq_hart _ HK.out _) ?_) | (go_at_call 7; refine (c_lives _).mono ?_; rintro e w' ⟨rfl, d7⟩))
      all_goals
        go_ret
        exact ⟨rfl, HD5.out.trans (d7.mono HD5.out.size)⟩
  · go_enter Try.func3, Try.ntmps3
    go_wp2_with (go_at_call 7; refine (c_lives _).mono ?_; rintro e w' ⟨rfl, d⟩)
    go_ret
    exact ⟨rfl, ((Below.refl _ _).alloc (Nat.le_refl _) _).trans (d.mono (by simp))⟩
end Go.Proofs.Ytcjfafhbohkhlaa.Hand
