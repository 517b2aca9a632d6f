/- DERIVED. DERIVED. One step of the program's hart and of the document's: the same registers, the same memory, the same error, whatever stands at the place; without a memory there is no step. -/
import Derived.Test.YtcjfafhbohkhlaaGreatProg
import Derived.Test.YtcjfafhbohkhlaaGreatMBits
import Derived.Test.YtcjfafhbohkhlaaGreatMWalk
import Derived.Test.YtcjfafhbohkhlaaGreatMTab
import Derived.Test.YtcjfafhbohkhlaaGreatMInst
import Derived.Test.YtcjfafhbohkhlaaGreatMDec
import Derived.Test.YtcjfafhbohkhlaaGreatMDec2
import Derived.Test.YtcjfafhbohkhlaaGreatMQTail
import Derived.Test.YtcjfafhbohkhlaaGreatMArg
import Derived.Test.YtcjfafhbohkhlaaGreatMMem
import Derived.Test.YtcjfafhbohkhlaaGreatMMemK
import Derived.Test.YtcjfafhbohkhlaaGreatMMemR
import Derived.Test.YtcjfafhbohkhlaaGreatMHart
import Derived.Test.YtcjfafhbohkhlaaGreatMRow
import Derived.Test.YtcjfafhbohkhlaaGreatMOpen
import Derived.Test.YtcjfafhbohkhlaaGreatMPart
import Derived.Test.YtcjfafhbohkhlaaGreatMReg
import Derived.Test.YtcjfafhbohkhlaaGreatMQHead
import Derived.Test.YtcjfafhbohkhlaaGreatMQTwo
import Derived.Test.YtcjfafhbohkhlaaGreatHS
import Derived.Test.YtcjfafhbohkhlaaGreatPAllx0
import Derived.Test.YtcjfafhbohkhlaaGreatPAllx2
import Derived.Test.YtcjfafhbohkhlaaGreatPAllx4
import Derived.Test.YtcjfafhbohkhlaaGreatPAllx5
import Derived.Test.YtcjfafhbohkhlaaGreatPAllx6
import Derived.Test.YtcjfafhbohkhlaaGreatPAllx9
import Derived.Test.YtcjfafhbohkhlaaGreatPAllx11
import Derived.Test.YtcjfafhbohkhlaaGreatPAllx12
import Derived.Test.YtcjfafhbohkhlaaGreatPAllx14
import Derived.Test.YtcjfafhbohkhlaaGreatPAllx16
import Derived.Test.YtcjfafhbohkhlaaGreatPAllx20
import Derived.Below
import Derived.Deep.Draws
import Derived.Deep.AppendLies
import Derived.Maps.AppendAt
import Derived.OwnWalk
import Derived.Laws.BytesArg
import Derived.Laws.MakeOwn
import Derived.Laws.OwnMore
import Derived.Deep.OwnRows
import Derived.Tactics
import Derived.Lib.ConvBytes
import Derived.Laws.Slices
import Derived.WalkKit
import Derived.KernelRfl
import Derived.RowKit3
import Derived.Deep.LoopGhost
import Derived.Deep.QuietTactic
import Derived.BigQuiet
import Derived.WideLaws
import Derived.Deep.DeepCutAuto
import Derived.Deep.CutBlock
import Derived.Deep.RegionHeld3
import Derived.Laws.Rows
import Derived.Lib.AppendStr
import Derived.ArgAppend
import Derived.Laws.IdiomCopy
import Derived.OrdersHeld
import Derived.Laws.BitsLemmas
import Derived.Laws.Bits64
import Derived.RowKit
import Derived.Outline
import Derived.Handy
import Derived.Lib.Hide
import Derived.Deep.Light
import Derived.Laws.CopyOwn
namespace Go.Proofs.YtcjfafhbohkhlaaGreat.Hand
open Go Go.RowKit Go.Proofs.YtcjfafhbohkhlaaGreat.M Go.Proofs.YtcjfafhbohkhlaaGreat.PAll Go.Proofs.YtcjfafhbohkhlaaGreatW.PrintWords
set_option linter.unusedVariables false
set_option linter.unusedSimpArgs false
theorem PutR_n (w : World) (g b : Nat) (bs : List Int) (at_ : Int) (c n : Nat) (A : Option Addr) (l : List Int) (hn : l.length = n) (h : RefAt w g b bs) (h0 : U64 at_) (hs : Src w A l) (hA : l ≠ [] → ∀ ad, A = some ad → ad.block ≠ b) (hl : Bytes l) (hb : n ≤ 9223372036854775807) : Calls Tryz.prog 11 #[.pointer (some ⟨g, 0, none⟩), .int .u64 at_, .slice A n c] w fun e w' => e = .returned (.int .i64 (partE bs.length at_ n)) ∧ RefAt w' g b (putOf bs at_ l) ∧ w.grownBy w' (some b) := by
  subst hn; exact PutR_any w g b bs at_ c A l h h0 hs hA hl hb
set_option maxHeartbeats 16000000 in
set_option maxRecDepth 100000 in
theorem HartSteps.all (y : HartS) (a1 : Int) (A : Option Addr) (n c : Nat) (l : List InstS) (A3 : Option Addr) (n3 c3 : Nat) (z3 : List Int) (w : World) (hk : y.Ok) (w1 : (Lit.int .i64 a1).wf = true) (hr : InstRow w A l) (hl : l.length = n) (hi : ∀ i ∈ l, I64 i.imm) (hn : n ≤ 9223372036854775807) (w3 : IsRow .u8 w A3 n3 c3 z3) (y3 : n3 * 1 ≤ 140737488351232) :
    Calls Tryz.prog 4 #[.agg y.cells, .int .i64 a1, .slice A n c, .slice A3 n3 c3] w fun e w' => e = .returned (.bool true) ∧ Below w.heap.size w w' := by
  have HK := Lib.hid hk
  have HR := Lib.hid hr
  have HI := Lib.hid hi
  have HL := Lib.hid hl
  obtain ⟨s1, s2, s3⟩ := w3.src n3 (Nat.le_refl _)
  generalize z3.take n3 = dl at *
  have HS := Lib.hid s1
  have hlen := Lib.hid s2
  have hby := Lib.hid s3
  have hlow : Hid (dl ≠ [] → ∀ ad, A3 = some ad → ad.block < w.heap.size) := Lib.hid fun h ad e => by
    obtain ⟨ad', e', h1, _⟩ := s1 h
    rw [e] at e'
    injection e' with e'
    rw [e']; exact h1
  have hn3 : n3 ≤ 9223372036854775807 := by omega
  clear hk hr hi hl w3 s1 s2 s3 y3
  by_cases hn : n ≤ 200
  · by_cases hm : n3 ≤ 500
    · go_enter Tryz.func4, Tryz.ntmps4
      go_wp2_with fail
      generalize hX : World.alloc w _ = X
      obtain ⟨B, d, hsX⟩ := arg_box hX
      have HB := Lib.hid B
      have HD := Lib.hid d
      have hsX := Lib.hid hsX
      clear hX B d
      refine (laid_any a1 A n c l X HL.out hn (HR.out.below HD.out) HI.out).mono ?_
      rintro e W1 ⟨g, q, gr, qr, rfl, M, F, hg, hq, hgr, hqr, n1, n2, n3', d⟩
      have HP := Lib.hid (pr_start HB.out HD.out hsX.out M F hq hqr n1 n2 n3' d)
      have HS1 := Lib.hid (HS.out.below HP.out.d)
      generalize laidTo (sizeAt a1) l n = bs at *
      clear M F d hg hq hgr hqr n1 n2 n3' HB HD hsX HR HI HL HS
      go_wp2_with fail
      refine (Put_n W1 g q bs _ c3 n3 A3 dl hlen.out HP.out.m ⟨by omega, by omega⟩ HS1.out hby.out hn3).mono ?_
      rintro e W2 ⟨rfl, hM, hG⟩
      have HS2 := Lib.hid (Src.grown HS1.out hG (fun h ad e => by have := hlow.out h ad e; have := HP.out.n1; omega))
      have HP2 := Lib.hid (HP.out.m1 hG hM)
      clear hM hG HP HS1
      go_wp2_with fail
      refine (PutR_n W2 gr qr bs _ c3 n3 A3 dl hlen.out HP2.out.o ⟨by omega, by omega⟩ HS2.out (fun h ad e => by have := hlow.out h ad e; have := HP2.out.n2; omega) hby.out hn3).mono ?_
      rintro e W3 ⟨rfl, hM, hG⟩
      have HP3 := Lib.hid (HP2.out.m2 hG hM)
      clear hM hG HP2 HS2 hlow hby hlen
      generalize putOf bs _ dl = bs2 at *
      go_wp2_with (refine wpList_load_row rfl 25 _ rfl w.heap.size rfl 25 _ _ _ HP3.out.b Tryz.underlying25 rfl (hart_info.trans (congrArg some (HartS.size HK.out).symm)) ?_)
      refine (step_any y g q bs2 W3 HK.out HP3.out.m).mono ?_
      rintro e W4 ⟨rfl, hM, hG⟩
      have KX := Lib.hid (step_ok y bs2 HK.out HP3.out.m.2.2.1)
      have HRS := Lib.hid (fun (W : World) (M : RefAt W gr qr bs2) => rstep_any y gr qr bs2 W HK.out M)
      have HP4 := Lib.hid (HP3.out.m1 hG hM)
      clear hM hG HP3
      generalize stepOf y bs2 = r at *
      obtain ⟨x, b1, er⟩ := r
      dsimp only at *
      go_wp2_with (first | (refine wpList_store_row rfl 25 _ _ rfl (W4.heap.size) _ rfl rfl 25 _ (Blk.new _ _ _) (hart_info.trans (congrArg some (HartS.size KX.out).symm)) (HartS.size KX.out).symm (HartS.one _) ?_; (generalize hZ : World.setRow _ _ _ = Z; obtain ⟨b5, d5, _⟩ := hart_new hZ; have BX := Lib.hid b5; have HP5 := Lib.hid (HP4.out.below d5); have hq2 := Lib.hid (show qr < W4.heap.size from HP4.out.o.2.1.lt); clear hZ b5 d5 HP4)) | (refine wpList_load_row rfl 25 _ rfl (w.heap.size) rfl 25 _ _ _ HP5.out.b Tryz.underlying25 rfl (hart_info.trans (congrArg some (HartS.size HK.out).symm)) ?_))
      refine (HRS.out _ HP5.out.o).mono ?_
      rintro e W5 ⟨rfl, hM, hG⟩
      have BX2 : Hid (Blk W5 W4.heap.size x.cells 25) := Lib.hid ((hG.block _ BX.out.lt (fun e => by injection e with e; have := hq2.out; omega)).trans BX.out)
      have HP6 := Lib.hid (HP5.out.m2 hG hM)
      clear hM hG HP5 BX HRS
      go_wp2_with (first | (refine wpList_store_row rfl 36 _ _ rfl (W5.heap.size) _ rfl rfl 36 _ (Blk.new _ _ _) (rhart_info.trans (congrArg some (HartS.size KX.out).symm)) (HartS.size KX.out).symm (HartS.one _) ?_; (generalize hZ : World.setRow _ _ _ = Z2; obtain ⟨b5, d5, _⟩ := rhart_new hZ; have BY := Lib.hid b5; have BX3 := Lib.hid (BX2.out.below d5); have HP7 := Lib.hid (HP6.out.below d5); clear hZ b5 d5 HP6 BX2)) | (refine wpList_load_row rfl 25 _ rfl (w.heap.size) rfl 25 _ _ _ HP7.out.b Tryz.underlying25 rfl (hart_info.trans (congrArg some (HartS.size HK.out).symm)) ?_))
      refine (step_nil y _ HK.out).mono ?_
      rintro e W6 ⟨rfl, d6⟩
      have HP8 := Lib.hid (HP7.out.below d6)
      have BX4 := Lib.hid (BX3.out.below d6)
      have BY2 := Lib.hid (BY.out.below d6)
      clear d6 HP7 BX3 BY
      go_wp2_with (first | (refine wpList_store_row rfl 25 _ _ rfl (W6.heap.size) _ rfl rfl 25 _ (Blk.new _ _ _) (hart_info.trans (congrArg some (HartS.size HK.out).symm)) (HartS.size HK.out).symm (HartS.one _) ?_; (generalize hZ : World.setRow _ _ _ = Z3; obtain ⟨_, d5, _⟩ := hart_new hZ; have BX5 := Lib.hid (BX4.out.below d5); have BY3 := Lib.hid (BY2.out.below d5); have HP9 := Lib.hid (HP8.out.below d5); clear hZ d5 HP8 BX4 BY2)) | (refine wpList_load_row rfl 25 _ rfl (W4.heap.size) rfl 25 _ _ _ BX5.out Tryz.underlying25 rfl (hart_info.trans (congrArg some (HartS.size KX.out).symm)) ?_) | (refine wpList_load_row rfl 36 _ rfl (W5.heap.size) rfl 36 _ _ _ BY3.out Tryz.underlying36 rfl (rhart_info.trans (congrArg some (HartS.size KX.out).symm)) ?_) | (refine wpList_eql rfl _ _ _ _ rfl _ _ rfl rfl (by kernel_rfl) true (req_hart _ KX.out _) ?_) | (go_at_call 9; refine (same_any g q gr qr b1 _ HP9.out.m HP9.out.o).mono ?_; rintro e W7 ⟨rfl, d6⟩; have HPA := Lib.hid (HP9.out.d.trans (d6.mono HP9.out.d.size)); clear d6 HP9 BX5 BY3) | (go_at_call 5; refine (c_lives _).mono ?_; rintro e w' ⟨rfl, d7⟩))
      go_ret
      exact ⟨rfl, HPA.out.trans (d7.mono HPA.out.size)⟩
    · go_enter Tryz.func4, Tryz.ntmps4
      go_wp2_with (go_at_call 5; refine (c_lives _).mono ?_; rintro e w' ⟨rfl, d⟩)
      go_ret
      exact ⟨rfl, ((Below.refl _ _).alloc (Nat.le_refl _) _).trans (d.mono (by simp))⟩
  · go_enter Tryz.func4, Tryz.ntmps4
    go_wp2_with (go_at_call 5; refine (c_lives _).mono ?_; rintro e w' ⟨rfl, d⟩)
    go_ret
    exact ⟨rfl, ((Below.refl _ _).alloc (Nat.le_refl _) _).trans (d.mono (by simp))⟩
end Go.Proofs.YtcjfafhbohkhlaaGreat.Hand
