/- DERIVED. DERIVED. The program's hart and the document's run alike: as many steps, the same registers, the same memory, the same error. -/
import Derived.Test.YtcjfafhbohkhlaaGreatProg
import Derived.Test.YtcjfafhbohkhlaaGreatMBits
import Derived.Test.YtcjfafhbohkhlaaGreatMWalk
import Derived.Test.YtcjfafhbohkhlaaGreatMTab
import Derived.Test.YtcjfafhbohkhlaaGreatMInst
import Derived.Test.YtcjfafhbohkhlaaGreatMDec
import Derived.Test.YtcjfafhbohkhlaaGreatMDec2
import Derived.Test.YtcjfafhbohkhlaaGreatMQTail
import Derived.Test.YtcjfafhbohkhlaaGreatMArg
import Derived.Test.YtcjfafhbohkhlaaGreatMMem
import Derived.Test.YtcjfafhbohkhlaaGreatMMemK
import Derived.Test.YtcjfafhbohkhlaaGreatMMemR
import Derived.Test.YtcjfafhbohkhlaaGreatMHart
import Derived.Test.YtcjfafhbohkhlaaGreatMRow
import Derived.Test.YtcjfafhbohkhlaaGreatMOpen
import Derived.Test.YtcjfafhbohkhlaaGreatMPart
import Derived.Test.YtcjfafhbohkhlaaGreatMReg
import Derived.Test.YtcjfafhbohkhlaaGreatMQHead
import Derived.Test.YtcjfafhbohkhlaaGreatMQTwo
import Derived.Test.YtcjfafhbohkhlaaGreatHS
import Derived.Test.YtcjfafhbohkhlaaGreatPAllx0
import Derived.Test.YtcjfafhbohkhlaaGreatPAllx2
import Derived.Test.YtcjfafhbohkhlaaGreatPAllx4
import Derived.Test.YtcjfafhbohkhlaaGreatPAllx5
import Derived.Test.YtcjfafhbohkhlaaGreatPAllx6
import Derived.Test.YtcjfafhbohkhlaaGreatPAllx9
import Derived.Test.YtcjfafhbohkhlaaGreatPAllx11
import Derived.Test.YtcjfafhbohkhlaaGreatPAllx12
import Derived.Test.YtcjfafhbohkhlaaGreatPAllx14
import Derived.Test.YtcjfafhbohkhlaaGreatPAllx16
import Derived.Test.YtcjfafhbohkhlaaGreatPAllx20
import Derived.Below
import Derived.Deep.Draws
import Derived.Deep.AppendLies
import Derived.Maps.AppendAt
import Derived.OwnWalk
import Derived.Laws.BytesArg
import Derived.Laws.MakeOwn
import Derived.Laws.OwnMore
import Derived.Deep.OwnRows
import Derived.Tactics
import Derived.Lib.ConvBytes
import Derived.Laws.Slices
import Derived.WalkKit
import Derived.KernelRfl
import Derived.RowKit3
import Derived.Deep.LoopGhost
import Derived.Deep.QuietTactic
import Derived.BigQuiet
import Derived.WideLaws
import Derived.Deep.DeepCutAuto
import Derived.Deep.CutBlock
import Derived.Deep.RegionHeld3
import Derived.Laws.Rows
import Derived.Lib.AppendStr
import Derived.ArgAppend
import Derived.Laws.IdiomCopy
import Derived.OrdersHeld
import Derived.Laws.BitsLemmas
import Derived.Laws.Bits64
import Derived.RowKit
import Derived.Outline
import Derived.Handy
import Derived.Lib.Hide
import Derived.Deep.Light
import Derived.Laws.CopyOwn
namespace Go.Proofs.YtcjfafhbohkhlaaGreat.Hand
open Go Go.RowKit Go.Proofs.YtcjfafhbohkhlaaGreat.M Go.Proofs.YtcjfafhbohkhlaaGreat.PAll Go.Proofs.YtcjfafhbohkhlaaGreatW.PrintWords
set_option linter.unusedVariables false
set_option linter.unusedSimpArgs false
set_option maxHeartbeats 16000000 in
set_option maxRecDepth 100000 in
theorem HartRuns.all (y : HartS) (a1 : Int) (A : Option Addr) (n c : Nat) (l : List InstS) (a3 : Int) (w : World) (hk : y.Ok) (w1 : (Lit.int .i64 a1).wf = true) (hr : InstRow w A l) (hl : l.length = n) (hi : ∀ i ∈ l, I64 i.imm) (hn : n ≤ 9223372036854775807) (w3 : (Lit.int .i64 a3).wf = true) :
    Calls Tryz.prog 3 #[.agg y.cells, .int .i64 a1, .slice A n c, .int .i64 a3] w fun e w' => e = .returned (.bool true) ∧ Below w.heap.size w w' := by
  have HK := Lib.hid hk
  have HR := Lib.hid hr
  have HI := Lib.hid hi
  have HL := Lib.hid hl
  have e1 := most_at a3
  have l1 := most_le a3
  generalize mostAt a3 = j at *
  clear hk hr hi hl w3
  by_cases hn : n ≤ 200
  · go_enter Tryz.func3, Tryz.ntmps3
    go_wp2_with fail
    generalize hX : World.alloc w _ = X
    obtain ⟨B, d, hsX⟩ := arg_box hX
    have HB := Lib.hid B
    have HD := Lib.hid d
    have hsX := Lib.hid hsX
    clear hX B d
    refine (laid_any a1 A n c l X HL.out hn (HR.out.below HD.out) HI.out).mono ?_
    rintro e W1 ⟨g, q, gr, qr, rfl, M, F, hg, hq, hgr, hqr, n1, n2, n3, d⟩
    have hbl := Lib.hid (show 0 < (laidTo (sizeAt a1) l n).length by rw [laid_len]; have := size_at_le a1; omega)
    have HP := Lib.hid (pr_start HB.out HD.out hsX.out M F hq hqr n1 n2 n3 d)
    generalize laidTo (sizeAt a1) l n = bs at *
    clear M F d hg hq hgr hqr n1 n2 n3 HB HD hsX HR HI HL
    go_wp2_with (refine wpList_load_row rfl 25 _ rfl w.heap.size rfl 25 _ _ _ HP.out.b Tryz.underlying25 rfl (hart_info.trans (congrArg some (HartS.size HK.out).symm)) ?_)
    refine (run_any y g q j bs W1 HK.out HP.out.m (by omega) hbl.out).mono ?_
    rintro e W2 ⟨rfl, hM, hG⟩
    have KX := Lib.hid (run_ok j y bs HK.out HP.out.m.2.2.1)
    have HRR := Lib.hid (fun (W : World) (M : RefAt W gr qr bs) => rrun_any y gr qr j bs W HK.out M (by omega))
    have HP2 := Lib.hid (HP.out.m1 hG hM)
    clear hM hG HP
    generalize runOf j y bs = r at *
    obtain ⟨x, b1, i1, er⟩ := r
    dsimp only at *
    go_wp2_with (first | (refine wpList_store_row rfl 25 _ _ rfl (W2.heap.size) _ rfl rfl 25 _ (Blk.new _ _ _) (hart_info.trans (congrArg some (HartS.size KX.out.1).symm)) (HartS.size KX.out.1).symm (HartS.one _) ?_; (generalize hZ : World.setRow _ _ _ = Z; obtain ⟨b5, d5, _⟩ := hart_new hZ; have BX := Lib.hid b5; have HP3 := Lib.hid (HP2.out.below d5); have hq2 := Lib.hid (show qr < W2.heap.size from HP2.out.o.2.1.lt); clear hZ b5 d5 HP2)) | (refine wpList_load_row rfl 25 _ rfl (w.heap.size) rfl 25 _ _ _ HP3.out.b Tryz.underlying25 rfl (hart_info.trans (congrArg some (HartS.size HK.out).symm)) ?_))
    refine (HRR.out _ HP3.out.o).mono ?_
    rintro e W3 ⟨rfl, hM, hG⟩
    have BX2 : Hid (Blk W3 W2.heap.size x.cells 25) := Lib.hid ((hG.block _ BX.out.lt (fun e => by injection e with e; have := hq2.out; omega)).trans BX.out)
    have HP4 := Lib.hid (HP3.out.m2 hG hM)
    clear hM hG HP3 BX HRR
    go_wp2_with (first | (refine wpList_store_row rfl 36 _ _ rfl (W3.heap.size) _ rfl rfl 36 _ (Blk.new _ _ _) (rhart_info.trans (congrArg some (HartS.size KX.out.1).symm)) (HartS.size KX.out.1).symm (HartS.one _) ?_; (generalize hZ : World.setRow _ _ _ = Z2; obtain ⟨b5, d5, _⟩ := rhart_new hZ; have BY := Lib.hid b5; have BX3 := Lib.hid (BX2.out.below d5); have HP5 := Lib.hid (HP4.out.below d5); clear hZ b5 d5 HP4 BX2)) | (refine wpList_load_row rfl 25 _ rfl (W2.heap.size) rfl 25 _ _ _ BX3.out Tryz.underlying25 rfl (hart_info.trans (congrArg some (HartS.size KX.out.1).symm)) ?_) | (refine wpList_load_row rfl 36 _ rfl (W3.heap.size) rfl 36 _ _ _ BY.out Tryz.underlying36 rfl (rhart_info.trans (congrArg some (HartS.size KX.out.1).symm)) ?_) | (refine wpList_eql rfl _ _ _ _ rfl _ _ rfl rfl (by kernel_rfl) true (req_hart _ KX.out.1 _) ?_) | (go_at_call 9; refine (same_any g q gr qr b1 _ HP5.out.m HP5.out.o).mono ?_; rintro e W6 ⟨rfl, d6⟩; have HP6 := Lib.hid (HP5.out.d.trans (d6.mono HP5.out.d.size)); clear d6 HP5 BX3 BY) | (go_at_call 5; refine (c_lives _).mono ?_; rintro e w' ⟨rfl, d7⟩))
    go_ret
    exact ⟨rfl, HP6.out.trans (d7.mono HP6.out.size)⟩
  · go_enter Tryz.func3, Tryz.ntmps3
    go_wp2_with (go_at_call 5; refine (c_lives _).mono ?_; rintro e w' ⟨rfl, d⟩)
    go_ret
    exact ⟨rfl, ((Below.refl _ _).alloc (Nat.le_refl _) _).trans (d.mono (by simp))⟩
end Go.Proofs.YtcjfafhbohkhlaaGreat.Hand
