/- DERIVED. DERIVED. Some steps, and more behind, are both together. -/
import Derived.Test.YtcjfafhbohkhlaaProg
import Derived.Test.YtcjfafhbohkhlaaMBits
import Derived.Test.YtcjfafhbohkhlaaMWalk
import Derived.Test.YtcjfafhbohkhlaaMTab
import Derived.Test.YtcjfafhbohkhlaaMInst
import Derived.Test.YtcjfafhbohkhlaaMDec
import Derived.Test.YtcjfafhbohkhlaaMDec2
import Derived.Test.YtcjfafhbohkhlaaMQTail
import Derived.Test.YtcjfafhbohkhlaaMArg
import Derived.Test.YtcjfafhbohkhlaaMMem
import Derived.Test.YtcjfafhbohkhlaaMMemK
import Derived.Test.YtcjfafhbohkhlaaMMemR
import Derived.Test.YtcjfafhbohkhlaaMHart
import Derived.Test.YtcjfafhbohkhlaaMRow
import Derived.Test.YtcjfafhbohkhlaaMOpen
import Derived.Test.YtcjfafhbohkhlaaHO
import Derived.Test.YtcjfafhbohkhlaaPAllx1
import Derived.Test.YtcjfafhbohkhlaaPAllx2
import Derived.Test.YtcjfafhbohkhlaaPAllx3
import Derived.Test.YtcjfafhbohkhlaaPAllx4
import Derived.Test.YtcjfafhbohkhlaaPAllx5
import Derived.Test.YtcjfafhbohkhlaaPAllx6
import Derived.Test.YtcjfafhbohkhlaaPAllx7
import Derived.Test.YtcjfafhbohkhlaaPAllx8
import Derived.Test.YtcjfafhbohkhlaaPAllx9
import Derived.Test.YtcjfafhbohkhlaaPAllx10
import Derived.Test.YtcjfafhbohkhlaaPAllx11
import Derived.Below
import Derived.Deep.Draws
import Derived.Deep.AppendLies
import Derived.Maps.AppendAt
import Derived.OwnWalk
import Derived.Laws.BytesArg
import Derived.Laws.MakeOwn
import Derived.Laws.OwnMore
import Derived.Deep.OwnRows
import Derived.Tactics
import Derived.Lib.ConvBytes
import Derived.Laws.Slices
import Derived.WalkKit
import Derived.KernelRfl
import Derived.RowKit3
import Derived.Deep.LoopGhost
import Derived.Deep.QuietTactic
import Derived.BigQuiet
import Derived.WideLaws
import Derived.Deep.DeepCutAuto
import Derived.Deep.CutBlock
import Derived.Deep.RegionHeld3
import Derived.Laws.Rows
import Derived.Lib.AppendStr
import Derived.ArgAppend
import Derived.Laws.IdiomCopy
import Derived.OrdersHeld
import Derived.Laws.BitsLemmas
import Derived.Laws.Bits64
import Derived.RowKit
import Derived.Outline
import Derived.Handy
import Derived.Lib.Hide
import Derived.Deep.Light
import Derived.Laws.CopyOwn
namespace Go.Proofs.Ytcjfafhbohkhlaa.Hand
open Go Go.RowKit Go.Proofs.Ytcjfafhbohkhlaa.M Go.Proofs.Ytcjfafhbohkhlaa.PAll Go.Proofs.YtcjfafhbohkhlaaW.PrintWords
set_option linter.unusedVariables false
set_option linter.unusedSimpArgs false
theorem touch_bytes (h : HartS) (bs : List Int) (op at_ n b : Int) (hb : Bytes bs) : Bytes (touchAt h bs op at_ n b).2.2.2 := by
  unfold touchAt
  repeat' split
  all_goals first | exact hb | exact storeOf_bytes hb
theorem do_bytes (h : HartS) (bs : List Int) (op rd rs1 rs2 imm : Int) (hb : Bytes bs) : Bytes (doOf h bs op rd rs1 rs2 imm).2.1 := by
  have tk := touch_bytes (h.set 0 0) bs op (addrOf op imm ((h.set 0 0).reg rs1)) (PAll.sizeOf op) ((h.set 0 0).reg rs2) hb
  unfold doOf
  dsimp only
  have key : Bytes (if 0 < PAll.sizeOf op then touchAt (h.set 0 0) bs op (addrOf op imm ((h.set 0 0).reg rs1)) (PAll.sizeOf op) ((h.set 0 0).reg rs2) else ((valueOf op imm h.pc ((h.set 0 0).reg rs1) ((h.set 0 0).reg rs2)).1, 0, h.set 0 0, bs)).2.2.2 := by
    split
    · exact tk
    · exact hb
  generalize (if 0 < PAll.sizeOf op then touchAt (h.set 0 0) bs op (addrOf op imm ((h.set 0 0).reg rs1)) (PAll.sizeOf op) ((h.set 0 0).reg rs2) else ((valueOf op imm h.pc ((h.set 0 0).reg rs1) ((h.set 0 0).reg rs2)).1, 0, h.set 0 0, bs)) = t at *
  split <;> exact key
theorem step_bytes (h : HartS) (bs : List Int) (hb : Bytes bs) : Bytes (stepOf h bs).2.1 := by
  unfold stepOf
  split
  · exact hb
  dsimp only
  split
  · exact hb
  split
  · exact hb
  · exact do_bytes _ _ _ _ _ _ _ hb
theorem run_ok : ∀ (n : Nat) (h : HartS) (bs : List Int), h.Ok → Bytes bs → (runOf n h bs).1.Ok ∧ (runOf n h bs).2.2.1 ≤ n
  | 0, h, bs, k, hb => ⟨k, Nat.le_refl _⟩
  | n + 1, h, bs, k, hb => by
    by_cases e : (stepOf h bs).2.2 = 0
    · have I := run_ok n _ _ (step_ok h bs k hb) (step_bytes h bs hb)
      rw [run_go h bs n e]; exact ⟨I.1, by show _ + 1 ≤ _; omega⟩
    · rw [run_stop h bs n e]; exact ⟨k, by show 0 ≤ _; omega⟩
theorem run_parts (k : Nat) : ∀ (n : Nat) (h : HartS) (bs : List Int), runOf (n + k) h bs = if (runOf n h bs).2.2.2 ≠ 0 then runOf n h bs else addOf (runOf n h bs).2.2.1 (runOf k (runOf n h bs).1 (runOf n h bs).2.1)
  | 0, h, bs => by
    rw [Nat.zero_add, if_neg (by show ¬ (0 : Int) ≠ 0; simp)]
    rfl
  | n + 1, h, bs => by
    rw [show n + 1 + k = n + k + 1 by omega]
    by_cases e : (stepOf h bs).2.2 = 0
    · rw [run_go h bs (n + k) e, run_go h bs n e, run_parts k n]
      show _ = if (runOf n _ _).2.2.2 ≠ 0 then _ else _
      split
      · rfl
      · rw [add_add]; rfl
    · rw [run_stop h bs (n + k) e, run_stop h bs n e, if_pos e]
/-- Two memories and the hart that came in. -/
structure P2 (w Z : World) (g q go qo : Nat) (y : HartS) (bm bo : List Int) : Prop where
  b : Blk Z w.heap.size y.cells 25
  m : MemAt Z g q bm
  o : MemAt Z go qo bo
  d : Below w.heap.size w Z
  n1 : w.heap.size < q
  n2 : w.heap.size < qo
  n3 : q ≠ qo
  n4 : q ≠ go
  n5 : qo ≠ g
theorem P2.below {w Z Z' : World} {g q go qo : Nat} {y : HartS} {bm bo : List Int} (H : P2 w Z g q go qo y bm bo) (d : Below Z.heap.size Z Z') : P2 w Z' g q go qo y bm bo :=
  ⟨H.b.below d, H.m.below d, H.o.below d, H.d.trans (d.mono H.d.size), H.n1, H.n2, H.n3, H.n4, H.n5⟩
theorem P2.alloc {w Z Z' : World} {g q go qo : Nat} {y : HartS} {bm bo : List Int} (H : P2 w Z g q go qo y bm bo) {c : Obj} (e : Z.alloc c = Z') : P2 w Z' g q go qo y bm bo := H.below (e ▸ ((Below.refl Z.heap.size Z).alloc (Nat.le_refl _) _))
theorem mem_grown {Z Z' : World} {g q q2 : Nat} {bs : List Int} (M : MemAt Z g q bs) (hG : Z.grownBy Z' (some q2)) (h1 : q2 ≠ g) (h2 : q2 ≠ q) : MemAt Z' g q bs :=
  ⟨(hG.block _ M.1.lt (fun e => h1 (by injection e with e; exact e.symm))).trans M.1, (hG.block _ M.2.1.lt (fun e => h2 (by injection e with e; exact e.symm))).trans M.2.1, M.2.2⟩
theorem P2.grown {w Z Z' : World} {g q go qo : Nat} {y : HartS} {bm bo bm' : List Int} (H : P2 w Z g q go qo y bm bo) (hG : Z.grownBy Z' (some q)) (M : MemAt Z' g q bm') : P2 w Z' g q go qo y bm' bo :=
  ⟨(hG.block _ H.b.lt (fun e => by injection e with e; have := H.n1; omega)).trans H.b, M, mem_grown H.o hG H.n4 H.n3, below_grown H.d hG (by have := H.n1; omega) H.d.size, H.n1, H.n2, H.n3, H.n4, H.n5⟩
theorem P2.grown2 {w Z Z' : World} {g q go qo : Nat} {y : HartS} {bm bo bo' : List Int} (H : P2 w Z g q go qo y bm bo) (hG : Z.grownBy Z' (some qo)) (M : MemAt Z' go qo bo') : P2 w Z' g q go qo y bm bo' :=
  ⟨(hG.block _ H.b.lt (fun e => by injection e with e; have := H.n2; omega)).trans H.b, mem_grown H.m hG H.n5 (Ne.symm H.n3), M, below_grown H.d hG (by have := H.n2; omega) H.d.size, H.n1, H.n2, H.n3, H.n4, H.n5⟩
def partAt (s : Int) : Nat := (IntKind.u64.wrap s % 60).toNat
theorem part_at (s : Int) : wrap64 ((IntKind.u64.wrap s).tmod 60) = (partAt s : Nat) := by
  have h := (U64.wrap s).1
  unfold partAt
  rw [Int.tmod_eq_emod_of_nonneg h]
  unfold wrap64; omega
theorem part_le (s : Int) : partAt s < 60 := by
  have h := (U64.wrap s).1
  unfold partAt; omega
theorem laid_len (m : Nat) (l : List InstS) : ∀ j, (laidTo m l j).length = m
  | 0 => by simp [laidTo]
  | j + 1 => by rw [laidTo, storeOf_length _ _ _ _ (by omega), laid_len m l j]
theorem mem_len {Z Z' : World} {g q : Nat} {bs bs' : List Int} (M : MemAt Z g q bs) (hG : Z.grownBy Z' (some q)) (M' : MemAt Z' g q bs') : bs'.length = bs.length := by
  have h1 := (hG.block _ M.1.lt (fun e => M.ne (by injection e))).trans M.1
  have h2 := M'.1
  unfold Blk at h2
  rw [h1] at h2
  simp at h2
  omega
theorem run_at (y : HartS) (g q n : Nat) (m : Int) (bs : List Int) (w : World) (hm : m = n) (hk : y.Ok) (M : MemAt w g q bs) (hn : n ≤ 1000) (hl : 0 < bs.length) :
    Calls Try.prog 17 #[.agg y.cells, .pointer (some ⟨g, 0, none⟩), .int .i64 m] w (RunPost w g q (runOf n y bs)) := by subst hm; exact run_any y g q n bs w hk M hn hl
theorem p2_start {w X W1 W2 : World} {y : HartS} {g q go qo : Nat} {bs : List Int} (B : Blk X w.heap.size y.cells 25) (d : Below w.heap.size w X) (hs : w.heap.size + 1 = X.heap.size) (M : MemAt W1 g q bs) (hg : X.heap.size ≤ g) (hq : X.heap.size ≤ q) (d1 : Below X.heap.size X W1)
    (Mo : MemAt W2 go qo bs) (hgo : W1.heap.size ≤ go) (hqo : W1.heap.size ≤ qo) (d2 : Below W1.heap.size W1 W2) : P2 w W2 g q go qo y bs bs := by
  have a := M.1.lt
  have b := M.2.1.lt
  have e := d1.size
  exact ⟨(B.below d1).below d2, M.below d2, Mo, (d.trans (d1.mono d.size)).trans (d2.mono (by omega)), by omega, by omega, by omega, by omega, by omega⟩
set_option maxHeartbeats 16000000 in
set_option maxRecDepth 100000 in
theorem HartParts.all (y : HartS) (a1 : Int) (A : Option Addr) (n c : Nat) (l : List InstS) (a3 a4 : Int) (w : World) (hk : y.Ok) (w1 : (Lit.int .i64 a1).wf = true) (hr : InstRow w A l) (hl : l.length = n) (hi : ∀ i ∈ l, I64 i.imm) (hn : n ≤ 9223372036854775807) (w3 : (Lit.int .i64 a3).wf = true) (w4 : (Lit.int .i64 a4).wf = true) :
    Calls Try.prog 6 #[.agg y.cells, .int .i64 a1, .slice A n c, .int .i64 a3, .int .i64 a4] w fun e w' => e = .returned (.bool true) ∧ Below w.heap.size w w' := by
  have HK := Lib.hid hk
  have HR := Lib.hid hr
  have HI := Lib.hid hi
  have HL := Lib.hid hl
  have e1 := part_at a3
  have e2 := part_at a4
  have l1 := part_le a3
  have l2 := part_le a4
  generalize partAt a3 = j at *
  generalize partAt a4 = k at *
  clear hk hr hi hl w3 w4
  by_cases hn : n ≤ 200
  · go_enter Try.func6, Try.ntmps6
    go_wp2_with fail
    generalize hX : World.alloc w _ = X
    obtain ⟨B, d, hsX⟩ := arg_box hX
    have HB := Lib.hid B
    have HD := Lib.hid d
    have hsX := Lib.hid hsX
    clear hX B d
    refine (laid_any a1 A n c l X HL.out hn (HR.out.below HD.out) HI.out).mono ?_
    rintro e W1 ⟨g, q, gr, qr, rfl, M, F, hg, hq, _, _, _, _, _, d⟩
    have hbl := Lib.hid (show 0 < (laidTo (sizeAt a1) l n).length by rw [laid_len]; have := size_at_le a1; omega)
    have HM := Lib.hid M
    have HD1 := Lib.hid d
    have HG := Lib.hid (And.intro hg hq)
    generalize laidTo (sizeAt a1) l n = bs at *
    clear M F d hg hq
    go_wp2_with fail
    refine (Clone_any W1 g q bs HM.out).mono ?_
    rintro e W2 ⟨go, qo, rfl, Mo, hgo, hqo, d2⟩
    have HP := Lib.hid (p2_start HB.out HD.out hsX.out HM.out HG.out.1 HG.out.2 HD1.out Mo hgo hqo d2)
    clear HB HD hsX HM HD1 HG Mo hgo hqo d2
    go_wp2_with (refine wpList_load_row rfl 25 _ rfl w.heap.size rfl 25 _ _ _ HP.out.b Try.underlying25 rfl (hart_info.trans (congrArg some (HartS.size HK.out).symm)) ?_)
    refine (run_any y g q j bs W2 HK.out HP.out.m (by omega) hbl.out).mono ?_
    rintro e W3 ⟨rfl, hM, hG⟩
    have hb2 := mem_len HP.out.m hG hM
    have hb2 := Lib.hid (show 0 < (runOf j y bs).2.1.length by rw [hb2]; exact hbl.out)
    have KX := Lib.hid (run_ok j y bs HK.out HP.out.m.2.2.1)
    have HP3 := Lib.hid (HP.out.grown hG hM)
    have HPT := Lib.hid (run_parts k j y bs)
    have hq3 := Lib.hid (And.intro HP3.out.m.2.1.lt HP3.out.o.2.1.lt)
    clear hM hG HP
    generalize runOf j y bs = r at *
    obtain ⟨x, b1, i1, er⟩ := r
    dsimp only at *
    go_wp2_with (first | (refine wpList_store_row rfl 25 _ _ rfl (W3.heap.size) _ rfl rfl 25 _ (Blk.new _ _ _) (hart_info.trans (congrArg some (HartS.size KX.out.1).symm)) (HartS.size KX.out.1).symm (HartS.one _) ?_; (generalize hZ : World.setRow _ _ _ = Z; obtain ⟨b5, d5, _⟩ := hart_new hZ; have BX := Lib.hid b5; have HP4 := Lib.hid (HP3.out.below d5); clear hZ b5 d5 HP3)) | (refine wpList_load_row rfl 25 _ rfl (W3.heap.size) rfl 25 _ _ _ BX.out Try.underlying25 rfl (hart_info.trans (congrArg some (HartS.size KX.out.1).symm)) ?_))
    refine (run_any x g q k b1 Z KX.out.1 HP4.out.m (by omega) hb2.out).mono ?_
    rintro e W4 ⟨rfl, hM, hG⟩
    have KY := Lib.hid (run_ok k x b1 KX.out.1 HP4.out.m.2.2.1)
    have HP5 := Lib.hid (HP4.out.grown hG hM)
    have BX2 : Hid (Blk W4 W3.heap.size x.cells 25) := Lib.hid ((hG.block _ BX.out.lt (fun e => by injection e with e; have := hq3.out; omega)).trans BX.out)
    have hz4 := Lib.hid (show W3.heap.size < W4.heap.size from Nat.lt_of_lt_of_le BX.out.lt hG.size)
    clear hM hG HP4 BX
    generalize runOf k x b1 = r2 at *
    obtain ⟨x2, b2, i2, er2⟩ := r2
    dsimp only at *
    go_wp2_with (first | (refine wpList_store_row rfl 25 _ _ rfl (W4.heap.size) _ rfl rfl 25 _ (Blk.new _ _ _) (hart_info.trans (congrArg some (HartS.size KY.out.1).symm)) (HartS.size KY.out.1).symm (HartS.one _) ?_; (generalize hZ : World.setRow _ _ _ = Z2; obtain ⟨b5, d5, _⟩ := hart_new hZ; have BY := Lib.hid b5; have BX3 := Lib.hid (BX2.out.below d5); have HP6 := Lib.hid (HP5.out.below d5); clear hZ b5 d5 HP5 BX2)) | (refine wpList_load_row rfl 25 _ rfl (w.heap.size) rfl 25 _ _ _ HP6.out.b Try.underlying25 rfl (hart_info.trans (congrArg some (HartS.size HK.out).symm)) ?_))
    refine (run_at y go qo (j + k) _ bs Z2 (by omega) HK.out HP6.out.o (by omega) hbl.out).mono ?_
    rintro e W5 ⟨rfl, hM, hG⟩
    have KZ := Lib.hid (run_ok (j + k) y bs HK.out HP6.out.o.2.2.1)
    have HP7 := Lib.hid (HP6.out.grown2 hG hM)
    have BX4 : Hid (Blk W5 W3.heap.size x.cells 25) := Lib.hid ((hG.block _ BX3.out.lt (fun e => by injection e with e; have := hq3.out; omega)).trans BX3.out)
    have BY2 : Hid (Blk W5 W4.heap.size x2.cells 25) := Lib.hid ((hG.block _ BY.out.lt (fun e => by injection e with e; have := hq3.out; have := hz4.out; omega)).trans BY.out)
    clear hM hG HP6 BX3 BY
    generalize runOf (j + k) y bs = r3 at *
    obtain ⟨z, b3, i3, er3⟩ := r3
    dsimp only at *
    go_wp2_with (first | (refine wpList_store_row rfl 25 _ _ rfl (W5.heap.size) _ rfl rfl 25 _ (Blk.new _ _ _) (hart_info.trans (congrArg some (HartS.size KZ.out.1).symm)) (HartS.size KZ.out.1).symm (HartS.one _) ?_; (generalize hZ : World.setRow _ _ _ = Z3; obtain ⟨b5, d5, _⟩ := hart_new hZ; have BZ := Lib.hid b5; have BX5 := Lib.hid (BX4.out.below d5); have BY3 := Lib.hid (BY2.out.below d5); have HP8 := Lib.hid (HP7.out.below d5); clear hZ b5 d5 HP7 BX4 BY2)))
    refine (Len_any _ g q _ HP8.out.m).mono ?_
    rintro e W6 ⟨rfl, rfl⟩
    go_wp2_with fail
    refine (Bytes_all0 _ g q _ _ rfl HP8.out.m).mono ?_
    rintro e W6 ⟨A1, c1, rfl, S1', d6⟩
    have HS1 := Lib.hid S1'
    have BZ2 := Lib.hid (BZ.out.below d6)
    have BX6 := Lib.hid (BX5.out.below d6)
    have BY4 := Lib.hid (BY3.out.below d6)
    have HP9 := Lib.hid (HP8.out.below d6)
    clear S1' d6 BZ BX5 BY3 HP8
    go_wp2_with fail
    refine (Len_any _ go qo _ HP9.out.o).mono ?_
    rintro e W7 ⟨rfl, rfl⟩
    go_wp2_with fail
    refine (Bytes_all0 _ go qo _ _ rfl HP9.out.o).mono ?_
    rintro e W7 ⟨A2, c2, rfl, S2', d7⟩
    have HS2 := Lib.hid S2'
    have HS3 := Lib.hid (HS1.out.below d7)
    have BZ3 := Lib.hid (BZ2.out.below d7)
    have BX7 := Lib.hid (BX6.out.below d7)
    have BY5 := Lib.hid (BY4.out.below d7)
    have HP10 := Lib.hid (HP9.out.below d7)
    clear S2' d7 BZ2 BX6 BY4 HP9 HS1
    by_cases her : er = 0
    · subst her
      have hpt := HPT.out
      rw [if_neg (by simp)] at hpt
      injection hpt with p1 hpt
      injection hpt with p2 hpt
      injection hpt with p3 p4
      dsimp only at p1 p2 p3 p4
      subst p1 p2 p3 p4
      have cv1 := run_convert_src (P := Try.prog) W7 42 5 9 Try.underlying42 Try.underlying5 Try.underlying9 A1 b3 _ c1 rfl HS3.out.src
      have cv2 := run_convert_src (P := Try.prog) W7 42 5 9 Try.underlying42 Try.underlying5 Try.underlying9 A2 b3 _ c2 rfl HS2.out.src
      have ee : wrap64 ((i1 : Int) + i2) = i2 + i1 := by have := KX.out.2; have := KY.out.2; unfold wrap64; omega
      clear HPT KX KZ
      go_wp2_with (first | (refine wpList_load_row rfl 25 _ rfl (W4.heap.size) rfl 25 _ _ _ BY5.out Try.underlying25 rfl (hart_info.trans (congrArg some (HartS.size KY.out.1).symm)) ?_) | (refine wpList_load_row rfl 25 _ rfl (W5.heap.size) rfl 25 _ _ _ BZ3.out Try.underlying25 rfl (hart_info.trans (congrArg some (HartS.size KY.out.1).symm)) ?_) | (refine wpList_eql rfl _ _ _ _ rfl _ _ rfl rfl (by kernel_rfl) true (eq_hart _ KY.out.1 _) ?_) | (go_at_call 7; refine (c_lives _).mono ?_; rintro e w' ⟨rfl, d7⟩))
      go_ret
      exact ⟨rfl, HP10.out.d.trans (d7.mono HP10.out.d.size)⟩
    · have hpt := HPT.out
      rw [if_pos her] at hpt
      injection hpt with p1 hpt
      injection hpt with p2 hpt
      injection hpt with p3 p4
      subst p1 p2 p3 p4
      have de : (er3 != 0) = true := by simpa using her
      clear HPT KX
      go_wp2_with (first | (refine wpList_load_row rfl 25 _ rfl (W3.heap.size) rfl 25 _ _ _ BX7.out Try.underlying25 rfl (hart_info.trans (congrArg some (HartS.size KZ.out.1).symm)) ?_) | (refine wpList_load_row rfl 25 _ rfl (W5.heap.size) rfl 25 _ _ _ BZ3.out Try.underlying25 rfl (hart_info.trans (congrArg some (HartS.size KZ.out.1).symm)) ?_) | (refine wpList_eql rfl _ _ _ _ rfl _ _ rfl rfl (by kernel_rfl) true (eq_hart _ KZ.out.1 _) ?_) | (go_at_call 7; refine (c_lives _).mono ?_; rintro e w' ⟨rfl, d7⟩))
      go_ret
      exact ⟨rfl, HP10.out.d.trans (d7.mono HP10.out.d.size)⟩
  · go_enter Try.func6, Try.ntmps6
    go_wp2_with (go_at_call 7; refine (c_lives _).mono ?_; rintro e w' ⟨rfl, d⟩)
    go_ret
    exact ⟨rfl, ((Below.refl _ _).alloc (Nat.le_refl _) _).trans (d.mono (by simp))⟩
end Go.Proofs.Ytcjfafhbohkhlaa.Hand
