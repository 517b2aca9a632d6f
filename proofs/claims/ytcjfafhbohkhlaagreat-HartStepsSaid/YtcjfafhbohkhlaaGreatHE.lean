/- DERIVED. DERIVED. Steps, one behind the other. -/
import Derived.Test.YtcjfafhbohkhlaaGreatProg
import Derived.Test.YtcjfafhbohkhlaaGreatMBits
import Derived.Test.YtcjfafhbohkhlaaGreatMWalk
import Derived.Test.YtcjfafhbohkhlaaGreatMTab
import Derived.Test.YtcjfafhbohkhlaaGreatMInst
import Derived.Test.YtcjfafhbohkhlaaGreatMDec
import Derived.Test.YtcjfafhbohkhlaaGreatMDec2
import Derived.Test.YtcjfafhbohkhlaaGreatMQTail
import Derived.Test.YtcjfafhbohkhlaaGreatMArg
import Derived.Test.YtcjfafhbohkhlaaGreatMMem
import Derived.Test.YtcjfafhbohkhlaaGreatMMemK
import Derived.Test.YtcjfafhbohkhlaaGreatMMemR
import Derived.Test.YtcjfafhbohkhlaaGreatMHart
import Derived.Test.YtcjfafhbohkhlaaGreatMRow
import Derived.Test.YtcjfafhbohkhlaaGreatMOpen
import Derived.Test.YtcjfafhbohkhlaaGreatMPart
import Derived.Test.YtcjfafhbohkhlaaGreatMReg
import Derived.Test.YtcjfafhbohkhlaaGreatMQHead
import Derived.Test.YtcjfafhbohkhlaaGreatHD
import Derived.Test.YtcjfafhbohkhlaaGreatPAllx0
import Derived.Test.YtcjfafhbohkhlaaGreatPAllx2
import Derived.Test.YtcjfafhbohkhlaaGreatPAllx4
import Derived.Test.YtcjfafhbohkhlaaGreatPAllx5
import Derived.Test.YtcjfafhbohkhlaaGreatPAllx6
import Derived.Test.YtcjfafhbohkhlaaGreatPAllx9
import Derived.Test.YtcjfafhbohkhlaaGreatPAllx11
import Derived.Test.YtcjfafhbohkhlaaGreatPAllx12
import Derived.Test.YtcjfafhbohkhlaaGreatPAllx14
import Derived.Test.YtcjfafhbohkhlaaGreatPAllx16
import Derived.Test.YtcjfafhbohkhlaaGreatPAllx20
import Derived.Below
import Derived.Deep.Draws
import Derived.Deep.AppendLies
import Derived.Maps.AppendAt
import Derived.OwnWalk
import Derived.Laws.BytesArg
import Derived.Laws.MakeOwn
import Derived.Laws.OwnMore
import Derived.Deep.OwnRows
import Derived.Tactics
import Derived.Lib.ConvBytes
import Derived.Laws.Slices
import Derived.WalkKit
import Derived.KernelRfl
import Derived.RowKit3
import Derived.Deep.LoopGhost
import Derived.Deep.QuietTactic
import Derived.BigQuiet
import Derived.WideLaws
import Derived.Deep.DeepCutAuto
import Derived.Deep.CutBlock
import Derived.Deep.RegionHeld3
import Derived.Laws.Rows
import Derived.Lib.AppendStr
import Derived.ArgAppend
import Derived.Laws.IdiomCopy
import Derived.OrdersHeld
import Derived.Laws.BitsLemmas
import Derived.Laws.Bits64
import Derived.RowKit
import Derived.Outline
import Derived.Handy
import Derived.Lib.Hide
import Derived.Deep.Light
import Derived.Laws.CopyOwn
namespace Go.Proofs.YtcjfafhbohkhlaaGreat.Hand
open Go Go.RowKit Go.Proofs.YtcjfafhbohkhlaaGreat.M Go.Proofs.YtcjfafhbohkhlaaGreat.PAll Go.Proofs.YtcjfafhbohkhlaaGreatW.PrintWords
set_option linter.unusedVariables false
set_option linter.unusedSimpArgs false
def runOf : Nat → HartS → List Int → HartS × List Int × Nat × Int
  | 0, h, bs => (h, bs, 0, 0)
  | k + 1, h, bs =>
    if (stepOf h bs).2.2 ≠ 0 then (h, (stepOf h bs).2.1, 0, (stepOf h bs).2.2)
    else ((runOf k (stepOf h bs).1 (stepOf h bs).2.1).1, (runOf k (stepOf h bs).1 (stepOf h bs).2.1).2.1, (runOf k (stepOf h bs).1 (stepOf h bs).2.1).2.2.1 + 1, (runOf k (stepOf h bs).1 (stepOf h bs).2.1).2.2.2)
/-- With j steps more ahead. -/
def addOf (j : Nat) (r : HartS × List Int × Nat × Int) : HartS × List Int × Nat × Int := (r.1, r.2.1, r.2.2.1 + j, r.2.2.2)
theorem do_ok (h : HartS) (bs : List Int) (op rd rs1 rs2 imm : Int) (k : h.Ok) (hb : Bytes bs) : (doOf h bs op rd rs1 rs2 imm).1.Ok := by
  have ko : (h.set 0 0).Ok := k.set 0 0 (by decide)
  have ha := ko.reg rs1
  have hb2 := ko.reg rs2
  have tk := touch_ok (h.set 0 0) bs op (addrOf op imm ((h.set 0 0).reg rs1)) (PAll.sizeOf op) ((h.set 0 0).reg rs2) ko hb (addr_range _ _ _ ha) (by have := size_range op; exact ⟨by omega, by omega⟩)
  have vr := value_range op imm h.pc _ _ ha hb2
  have tr := target_range op imm h.pc ((h.set 0 0).reg rs1)
  have up : U64 (if 5 ≤ op ∧ op ≤ 10 ∧ takenOf op ((h.set 0 0).reg rs1) ((h.set 0 0).reg rs2) = false then IntKind.u64.wrap (h.pc + 4) else targetOf op imm h.pc ((h.set 0 0).reg rs1)) := by
    split
    · exact U64.wrap _
    · exact tr
  unfold doOf
  dsimp only
  have key : U64 (if 0 < PAll.sizeOf op then touchAt (h.set 0 0) bs op (addrOf op imm ((h.set 0 0).reg rs1)) (PAll.sizeOf op) ((h.set 0 0).reg rs2) else ((valueOf op imm h.pc ((h.set 0 0).reg rs1) ((h.set 0 0).reg rs2)).1, 0, h.set 0 0, bs)).1 ∧ (if 0 < PAll.sizeOf op then touchAt (h.set 0 0) bs op (addrOf op imm ((h.set 0 0).reg rs1)) (PAll.sizeOf op) ((h.set 0 0).reg rs2) else ((valueOf op imm h.pc ((h.set 0 0).reg rs1) ((h.set 0 0).reg rs2)).1, 0, h.set 0 0, bs)).2.2.1.Ok := by
    split
    · exact tk
    · exact ⟨vr, ko⟩
  generalize (if 0 < PAll.sizeOf op then touchAt (h.set 0 0) bs op (addrOf op imm ((h.set 0 0).reg rs1)) (PAll.sizeOf op) ((h.set 0 0).reg rs2) else ((valueOf op imm h.pc ((h.set 0 0).reg rs1) ((h.set 0 0).reg rs2)).1, 0, h.set 0 0, bs)) = t at *
  split
  · exact k
  · exact ((key.2.pc _ up).set _ _ key.1).set 0 0 (by decide)
theorem step_ok (h : HartS) (bs : List Int) (k : h.Ok) (hb : Bytes bs) : (stepOf h bs).1.Ok := by
  unfold stepOf
  split
  · exact k
  dsimp only
  split
  · exact k
  split
  · exact k
  · exact do_ok _ _ _ _ _ _ _ k hb
theorem results_cell_tmp2 {P : Program} {fn : Func} {p q r : Tmp} {ty : TypeId} (h : fn.results = #[.cell p ty, .tmp q, .tmp r]) (tmps : Array Value) (w : World) (g : Nat) (t : TypeId) (cs : Array Value) (d : TypeDesc)
    (hp : tmps.getD p undef = .pointer (some ⟨g, 0, none⟩)) (hg : Blk w g cs t)
    (hu : P.underlying ty = some d) (hd : (match d with | .struct _ | .array _ _ => true | _ => false) = true) (hi : (P.info? ty).map (·.size) = some cs.size) :
    (results fn tmps).run P w = .ok (.tuple #[.agg cs, tmps.getD q undef, tmps.getD r undef]) w := by
  have hp' : tmps[p]?.getD undef = .pointer (some ⟨g, 0, none⟩) := by simpa using hp
  simp [results, h, hp', asAddr, run_loadVar_row w g t ty cs (0, 0) d hg hu hd hi]
def RunPost (w : World) (g q : Nat) (r : HartS × List Int × Nat × Int) (e : Ending) (w' : World) : Prop :=
  e = .returned (.tuple #[.agg r.1.cells, .int .i64 (r.2.2.1 : Nat), .int .i64 r.2.2.2]) ∧ MemAt w' g q r.2.1 ∧ w.grownBy w' (some q)
section
variable {w Z Z' : World} {g q : Nat} {h x : HartS} {bs bs' : List Int}
theorem S1.grown (H : S1 w Z g q h bs) (t : Z.grownBy Z' (some q)) (m : MemAt Z' g q bs') : S1 w Z' g q h bs' :=
  H.two (O := w.heap.size + 2) (Nat.le_refl _) ⟨t.os, t.tape, t.output, t.size, fun k hk _ h2 => t.block k hk (fun e => h2 (by injection e))⟩ m
theorem S1.turn (H : S1 w Z g q h bs) (k : x.Ok) : S1 w (Z.setRow w.heap.size x.cells) g q x bs := by
  have h1 := H.hq
  have h2 := H.hg
  exact ⟨k, setRow_heap _ _ _ _ _ _ H.b1, (setRow_other _ _ _ _ (by omega)).trans H.b2, ⟨(setRow_other _ _ _ _ (by omega)).trans H.m.1, (setRow_other _ _ _ _ (by omega)).trans H.m.2.1, H.m.2.2⟩, ⟨H.f.os, H.f.tape, H.f.output, by rw [size_setRow]; exact H.f.size, fun k hk hne => (setRow_other _ _ _ _ (by omega)).trans (H.f.block k hk hne)⟩, h1, h2, by rw [size_setRow]; exact H.hs⟩
theorem run_new {zc : Array Value} (H : S1 w Z g q h bs) (e : (Z.alloc (.cells zc 25)).setRow Z.heap.size x.cells = Z') : S1 w Z' g q h bs ∧ Blk Z' Z.heap.size x.cells 25 := by
  rw [World.setRow_alloc_new] at e
  exact ⟨H.alloc e, Blk.new_eq e⟩
theorem S1.ends (H : S1 w Z g q h bs) (r : HartS) (kr : r.Ok) (n : Nat) (e : Int) (tmps : Array Value) (ds) (h6 : tmps.getD 6 undef = .pointer (some ⟨w.heap.size + 1, 0, none⟩)) (h7 : tmps.getD 7 undef = .int .i64 n) (h8 : tmps.getD 8 undef = .int .i64 e) (hd : ds = []) :
    bodyPost Tryz.prog Tryz.f7 (RunPost w g q (r, bs, n, e)) .ret ⟨tmps, ds⟩ (Z.setRow (w.heap.size + 1) r.cells) := by
  obtain ⟨m, f, b⟩ := H.row r.cells
  subst hd
  refine bodyPost_ret (v := .tuple #[.agg r.cells, .int .i64 n, .int .i64 e]) ?_ rfl ⟨rfl, m, f⟩
  rw [← h7, ← h8]
  exact results_cell_tmp2 (fn := Tryz.f7) (by kernel_rfl) tmps _ _ _ _ _ h6 b Tryz.underlying25 rfl (hart_info.trans (congrArg some (HartS.size kr).symm))
end
theorem run_go (h : HartS) (bs : List Int) (k : Nat) (e : (stepOf h bs).2.2 = 0) : runOf (k + 1) h bs = addOf 1 (runOf k (stepOf h bs).1 (stepOf h bs).2.1) := by
  show (if (stepOf h bs).2.2 ≠ 0 then _ else _) = _
  rw [if_neg (fun h => h e)]; rfl
theorem run_stop (h : HartS) (bs : List Int) (k : Nat) (e : (stepOf h bs).2.2 ≠ 0) : runOf (k + 1) h bs = (h, (stepOf h bs).2.1, 0, (stepOf h bs).2.2) := by
  show (if (stepOf h bs).2.2 ≠ 0 then _ else _) = _
  rw [if_pos e]
theorem add_add (i j : Nat) (r) : addOf i (addOf j r) = addOf (j + i) r := by simp [addOf, Nat.add_assoc]
set_option maxHeartbeats 16000000 in
set_option maxRecDepth 100000 in
theorem run_any (y : HartS) (g q n : Nat) (bs : List Int) (w : World) (hk : y.Ok) (M : MemAt w g q bs) (hn : n ≤ 1000) (hl : 0 < bs.length) :
    Calls Tryz.prog 7 #[.agg y.cells, .pointer (some ⟨g, 0, none⟩), .int .i64 (n : Int)] w (RunPost w g q (runOf n y bs)) := by
  have HM := Lib.hid M
  have HK := Lib.hid hk
  have dl : ((bs.length : Int) == 0) = false := by simp; intro e; rw [e] at hl; simp at hl
  clear M hk hl
  go_enter Tryz.func7, Tryz.ntmps7
  go_wp2_with fail
  generalize hX : World.alloc w _ = X
  generalize hY : World.alloc X _ = Y
  have H := Lib.hid (s1_start HM.out HK.out hX hY)
  clear hX hY
  refine (Len_any _ g q bs H.out.m).mono ?_
  rintro e W ⟨rfl, rfl⟩
  go_wp2_with fail
  clear dl
  all_goals (
    go_loopw [11, 32] (fun c i wr => ∃ j : Nat, j ≤ n ∧ i = .int .i64 j ∧ c = .int .i64 j ∧ ∃ x bs1, Hid (S1 w wr g q x bs1) ∧ Hid (addOf j (runOf (n - j) x bs1) = runOf n y bs)) (fun _ i _ => n - (intOf i).toNat)
    case atStart => exact ⟨0, by omega, rfl, rfl, _, _, H, Lib.hid rfl⟩
    case round =>
      obtain ⟨j, hj, rfl, rfl, x, bs1, HS, HR⟩ := hrel
      have dz : decide ((j : Int) < 0) = false := by simp
      by_cases hlt : j < n
      · obtain ⟨k, hk⟩ : ∃ k, n - j = k + 1 := ⟨n - j - 1, by omega⟩
        rw [hk] at HR
        first
        | (exfalso; omega)
        | (go_wp2_with (first | refine wpList_load_row rfl 25 _ rfl (w.heap.size) rfl 25 _ _ _ HS.out.b1 Tryz.underlying25 rfl (hart_info.trans (congrArg some (HartS.size HS.out.k).symm)) ?_)
           refine (step_any x g q bs1 wr HS.out.k HS.out.m).mono ?_
           rintro e W2 ⟨rfl, hM, hG⟩
           have ko := Lib.hid (step_ok x bs1 HS.out.k HS.out.m.2.2.1)
           have HS2 := Lib.hid (HS.out.grown hG hM)
           have R1 := Lib.hid (run_go x bs1 k)
           have R2 := Lib.hid (run_stop x bs1 k)
           clear hM hG HS
           generalize stepOf x bs1 = r at *
           obtain ⟨x2, bs2, er⟩ := r
           dsimp only at *
           by_cases he : er = 0
           · subst he
             have R3 := Lib.hid (show addOf (j + 1) (runOf (n - (j + 1)) x2 bs2) = runOf n y bs from by rw [show n - (j + 1) = k by omega, ← HR.out, R1.out rfl, add_add, Nat.add_comm])
             clear R1 R2 HR
             go_wp2_with (first | (refine wpList_store_row rfl 25 _ _ rfl (W2.heap.size) _ rfl rfl 25 _ (Blk.new _ _ _) (hart_info.trans (congrArg some (HartS.size ko.out).symm)) (HartS.size ko.out).symm (HartS.one _) ?_; (generalize hZ : World.setRow _ _ _ = Z; obtain ⟨h3, h4⟩ := run_new HS2.out hZ; have HS3 := Lib.hid h3; have B3 := Lib.hid h4; clear hZ h3 h4 HS2)) | (refine wpList_load_row rfl 25 _ rfl (W2.heap.size) rfl 25 _ _ _ B3.out Tryz.underlying25 rfl (hart_info.trans (congrArg some (HartS.size ko.out).symm)) ?_) | (refine wpList_store_row rfl 25 _ _ rfl (w.heap.size) _ rfl rfl 25 _ HS3.out.b1 (hart_info.trans (congrArg some (HartS.size ko.out).symm)) ((HartS.size HS3.out.k).trans (HartS.size ko.out).symm) (HartS.one _) ?_; (generalize hZ : World.setRow Z _ _ = Z2; have HS4 := Lib.hid (hZ ▸ HS3.out.turn ko.out); clear hZ HS3 B3)))
             go_roundw
             case rel => exact ⟨j + 1, by omega, by go_num, by go_num, x2, bs2, HS4, R3⟩
             case measure => simp [intOf]; omega
           · have R3 := Lib.hid (show addOf j (x, bs2, 0, er) = runOf n y bs from (congrArg (addOf j) (R2.out he)).symm.trans HR.out)
             have de : (er != 0) = true := by simpa using he
             clear R1 R2 HR
             have R4 : runOf n y bs = (x, bs2, j, er) := by rw [← R3.out]; simp [addOf]
             clear R3
             go_wp2_with (first | (refine wpList_store_row rfl 25 _ _ rfl (W2.heap.size) _ rfl rfl 25 _ (Blk.new _ _ _) (hart_info.trans (congrArg some (HartS.size ko.out).symm)) (HartS.size ko.out).symm (HartS.one _) ?_; (generalize hZ : World.setRow _ _ _ = Z; obtain ⟨h3, h4⟩ := run_new HS2.out hZ; have HS3 := Lib.hid h3; clear hZ h3 h4 HS2)) | (refine wpList_load_row rfl 25 _ rfl (w.heap.size) rfl 25 _ _ _ HS3.out.b1 Tryz.underlying25 rfl (hart_info.trans (congrArg some (HartS.size HS3.out.k).symm)) ?_) | (refine wpList_store_row rfl 25 _ _ rfl (w.heap.size + 1) _ rfl rfl 25 _ HS3.out.b2 (hart_info.trans (congrArg some (HartS.size HS3.out.k).symm)) (HartS.size HS3.out.k).symm (HartS.one _) ?_))
             rw [R4]
             exact HS3.out.ends x HS3.out.k j er _ _ (by rfl) (by rfl) (by rfl) rfl)
      · obtain rfl : j = n := by omega
        have R4 : runOf j y bs = (x, bs1, j, 0) := by rw [← HR.out, Nat.sub_self]; simp [addOf, runOf]
        clear HR
        go_wp2_with (first | (refine wpList_load_row rfl 25 _ rfl (w.heap.size) rfl 25 _ _ _ HS.out.b1 Tryz.underlying25 rfl (hart_info.trans (congrArg some (HartS.size HS.out.k).symm)) ?_) | (refine wpList_store_row rfl 25 _ _ rfl (w.heap.size + 1) _ rfl rfl 25 _ HS.out.b2 (hart_info.trans (congrArg some (HartS.size HS.out.k).symm)) (HartS.size HS.out.k).symm (HartS.one _) ?_))
        rw [R4]
        exact HS.out.ends x HS.out.k j 0 _ _ (by rfl) (by rfl) (by rfl) rfl)
end Go.Proofs.YtcjfafhbohkhlaaGreat.Hand
