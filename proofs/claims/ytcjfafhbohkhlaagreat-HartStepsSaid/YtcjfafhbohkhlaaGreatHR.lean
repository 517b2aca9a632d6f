/- DERIVED. DERIVED. One step of the reference's hart. -/
import Derived.Test.YtcjfafhbohkhlaaGreatProg
import Derived.Test.YtcjfafhbohkhlaaGreatMBits
import Derived.Test.YtcjfafhbohkhlaaGreatMWalk
import Derived.Test.YtcjfafhbohkhlaaGreatMTab
import Derived.Test.YtcjfafhbohkhlaaGreatMInst
import Derived.Test.YtcjfafhbohkhlaaGreatMDec
import Derived.Test.YtcjfafhbohkhlaaGreatMDec2
import Derived.Test.YtcjfafhbohkhlaaGreatMQTail
import Derived.Test.YtcjfafhbohkhlaaGreatMArg
import Derived.Test.YtcjfafhbohkhlaaGreatMMem
import Derived.Test.YtcjfafhbohkhlaaGreatMMemK
import Derived.Test.YtcjfafhbohkhlaaGreatMMemR
import Derived.Test.YtcjfafhbohkhlaaGreatMHart
import Derived.Test.YtcjfafhbohkhlaaGreatMRow
import Derived.Test.YtcjfafhbohkhlaaGreatMOpen
import Derived.Test.YtcjfafhbohkhlaaGreatMPart
import Derived.Test.YtcjfafhbohkhlaaGreatMReg
import Derived.Test.YtcjfafhbohkhlaaGreatMQHead
import Derived.Test.YtcjfafhbohkhlaaGreatMQTwo
import Derived.Test.YtcjfafhbohkhlaaGreatHQ
import Derived.Test.YtcjfafhbohkhlaaGreatPAllx0
import Derived.Test.YtcjfafhbohkhlaaGreatPAllx2
import Derived.Test.YtcjfafhbohkhlaaGreatPAllx4
import Derived.Test.YtcjfafhbohkhlaaGreatPAllx5
import Derived.Test.YtcjfafhbohkhlaaGreatPAllx6
import Derived.Test.YtcjfafhbohkhlaaGreatPAllx9
import Derived.Test.YtcjfafhbohkhlaaGreatPAllx11
import Derived.Test.YtcjfafhbohkhlaaGreatPAllx12
import Derived.Test.YtcjfafhbohkhlaaGreatPAllx14
import Derived.Test.YtcjfafhbohkhlaaGreatPAllx16
import Derived.Test.YtcjfafhbohkhlaaGreatPAllx20
import Derived.Below
import Derived.Deep.Draws
import Derived.Deep.AppendLies
import Derived.Maps.AppendAt
import Derived.OwnWalk
import Derived.Laws.BytesArg
import Derived.Laws.MakeOwn
import Derived.Laws.OwnMore
import Derived.Deep.OwnRows
import Derived.Tactics
import Derived.Lib.ConvBytes
import Derived.Laws.Slices
import Derived.WalkKit
import Derived.KernelRfl
import Derived.RowKit3
import Derived.Deep.LoopGhost
import Derived.Deep.QuietTactic
import Derived.BigQuiet
import Derived.WideLaws
import Derived.Deep.DeepCutAuto
import Derived.Deep.CutBlock
import Derived.Deep.RegionHeld3
import Derived.Laws.Rows
import Derived.Lib.AppendStr
import Derived.ArgAppend
import Derived.Laws.IdiomCopy
import Derived.OrdersHeld
import Derived.Laws.BitsLemmas
import Derived.Laws.Bits64
import Derived.RowKit
import Derived.Outline
import Derived.Handy
import Derived.Lib.Hide
import Derived.Deep.Light
import Derived.Laws.CopyOwn
namespace Go.Proofs.YtcjfafhbohkhlaaGreat.Hand
open Go Go.RowKit Go.Proofs.YtcjfafhbohkhlaaGreat.M Go.Proofs.YtcjfafhbohkhlaaGreat.PAll Go.Proofs.YtcjfafhbohkhlaaGreatW.PrintWords
set_option linter.unusedVariables false
set_option linter.unusedSimpArgs false
theorem set_back (o : HartS) (rd v pc : Int) : (({ o.set 0 0 with pc := pc } : HartS).set rd v).set 0 0 = (({ o with pc := pc } : HartS).set rd v).set 0 0 := by
  unfold HartS.set
  dsimp only
  congr 1
  by_cases h : rd.toNat = 0
  · rw [h]; simp
  · rw [show (0 : Int).toNat = 0 from rfl, List.set_comm _ _ (Ne.symm h), List.set_set]
theorem touch_zero (h : HartS) (bs : List Int) (op at_ n b : Int) : touchAt (h.set 0 0) bs op at_ n b = ((touchAt h bs op at_ n b).1, (touchAt h bs op at_ n b).2.1, (touchAt h bs op at_ n b).2.2.1.set 0 0, (touchAt h bs op at_ n b).2.2.2) := by
  unfold touchAt
  simp only [show (h.set 0 0).held = h.held from rfl, show (h.set 0 0).ad = h.ad from rfl, show (h.set 0 0).sz = h.sz from rfl]
  by_cases c1 : op = 67 ∨ op = 78
  · simp only [if_pos c1]
    by_cases c2 : h.held = true ∧ h.ad = at_ ∧ h.sz = n
    · simp only [if_pos c2]
      split <;> rfl
    · simp only [if_neg c2]; rfl
  · simp only [if_neg c1]
    by_cases c2 : loadsB op = true
    · simp only [if_pos c2]
      split
      · split <;> rfl
      · rfl
    · simp only [if_neg c2]
      split <;> rfl
theorem touch_pc (h : HartS) (bs : List Int) (op at_ n b : Int) : (touchAt h bs op at_ n b).2.2.1.pc = h.pc := by
  unfold touchAt
  split
  · split
    · split <;> rfl
    · rfl
  · split
    · split
      · show HartS.pc (if _ then _ else _) = _
        split <;> rfl
      · rfl
    · split <;> rfl
/-- What the instruction does, register 0 being cleared at the end alone. -/
theorem do_eq (h : HartS) (bs : List Int) (op rd rs1 rs2 imm : Int) : doOf h bs op rd rs1 rs2 imm =
    (let a := (h.set 0 0).reg rs1
     let b := (h.set 0 0).reg rs2
     let t := if 0 < PAll.sizeOf op then touchAt h bs op (addrOf op imm a) (PAll.sizeOf op) b else ((valueOf op imm h.pc a b).1, 0, h, bs)
     if t.2.1 ≠ 0 then (h, t.2.2.2, t.2.1)
     else ((({ t.2.2.1 with pc := if 5 ≤ op ∧ op ≤ 10 ∧ takenOf op a b = false then IntKind.u64.wrap (h.pc + 4) else targetOf op imm h.pc a } : HartS).set rd t.1).set 0 0, t.2.2.2, 0)) := by
  unfold doOf
  dsimp only
  by_cases c : 0 < PAll.sizeOf op
  · simp only [if_pos c, touch_zero, set_back]
  · simp only [if_neg c, set_back]
def RSPost (w : World) (g q : Nat) (r : HartS × List Int × Int) (e : Ending) (w' : World) : Prop :=
  e = .returned (.tuple #[.agg r.1.cells, .int .i64 r.2.2]) ∧ RefAt w' g q r.2.1 ∧ w.grownBy w' (some q)
/-- In the midst of the reference's step: the hart that it turns, the one that it hands back, the one that it was. -/
structure RS (w Z : World) (g q : Nat) (h o : HartS) (bs : List Int) (p : Nat) : Prop where
  k : h.Ok
  ko : o.Ok
  b1 : Blk Z w.heap.size o.cells 36
  b2 : Blk Z (w.heap.size + 1) H0.cells 36
  b3 : Blk Z p h.cells 36
  hp : w.heap.size + 1 < p
  m : RefAt Z g q bs
  f : w.grownBy Z (some q)
  hq : q < w.heap.size
  hg : g < w.heap.size
structure RI (w Z : World) (g q : Nat) (h o : HartS) (bs : List Int) (p I : Nat) (ic : Array Value) : Prop where
  s : RS w Z g q h o bs p
  bi : Blk Z I ic 50
  hI : p < I
section
variable {w Z Z' : World} {g q p I : Nat} {h o o' : HartS} {bs bs' : List Int} {ic : Array Value}
theorem RS.below (H : RS w Z g q h o bs p) (d : Below Z.heap.size Z Z') : RS w Z' g q h o bs p := ⟨H.k, H.ko, H.b1.below d, H.b2.below d, H.b3.below d, H.hp, H.m.below d, grown_below H.f d, H.hq, H.hg⟩
theorem RI.below (H : RI w Z g q h o bs p I ic) (d : Below Z.heap.size Z Z') : RI w Z' g q h o bs p I ic := ⟨H.s.below d, H.bi.below d, H.hI⟩
theorem RS.alloc (H : RS w Z g q h o bs p) {c : Obj} (e : Z.alloc c = Z') : RS w Z' g q h o bs p := H.below (e ▸ ((Below.refl Z.heap.size Z).alloc (Nat.le_refl _) _))
theorem RS.inst (H : RS w Z g q h o bs p) (e : Z.alloc (.cells ic 50) = Z') : RI w Z' g q h o bs p Z.heap.size ic := ⟨H.below (e ▸ ((Below.refl Z.heap.size Z).alloc (Nat.le_refl _) _)), Blk.new_eq e, H.b3.lt⟩
theorem RS.si (H : RS w Z g q h o bs p) : (Tryz.prog.info? 36).map (·.size) = some o.cells.size := rhart_info.trans (congrArg some (HartS.size H.ko).symm)
theorem RS.sh (H : RS w Z g q h o bs p) : (Tryz.prog.info? 36).map (·.size) = some h.cells.size := rhart_info.trans (congrArg some (HartS.size H.k).symm)
theorem RI.set (H : RI w Z g q h o bs p I ic) (i : Nat) (u : Value) (o' : HartS) (k : o'.Ok) (e : o.cells.setIfInBounds i u = o'.cells) : RI w (Z.setCell ⟨w.heap.size, i, none⟩ u) g q h o' bs p I ic :=
  have h1 := H.s.hp
  have h2 := H.hI
  have h3 := H.s.hq
  have h4 := H.s.hg
  have far : ∀ {b : Nat} {cs : Array Value} {T : Nat}, Blk Z b cs T → b ≠ w.heap.size → Blk (Z.setCell ⟨w.heap.size, i, none⟩ u) b cs T := fun B hb => B.far (p := ⟨w.heap.size, i, none⟩) hb u
  ⟨⟨H.s.k, k, e ▸ H.s.b1.set i u, far H.s.b2 (by omega), far H.s.b3 (by omega), h1, ref_far H.s.m (by omega) (by omega),
    ⟨H.s.f.os, H.s.f.tape, H.s.f.output, by rw [size_setCell]; exact H.s.f.size, fun k hk hne => (Below.heap_setCell Z ⟨w.heap.size, i, none⟩ u k (by show k ≠ w.heap.size; omega)).trans (H.s.f.block k hk hne)⟩, h3, h4⟩, far H.bi (by omega), h2⟩
theorem RI.mem (H : RI w Z g q h o bs p I ic) (t : Z.grownBy Z' (some q)) (m : RefAt Z' g q bs') : RI w Z' g q h o bs' p I ic :=
  have h1 := H.s.hp
  have h2 := H.hI
  have hq := H.s.hq
  have far : ∀ {b : Nat} {cs : Array Value} {T : Nat}, Blk Z b cs T → w.heap.size ≤ b → Blk Z' b cs T := fun B hb => (t.block _ B.lt (fun e => by injection e with e; omega)).trans B
  ⟨⟨H.s.k, H.s.ko, far H.s.b1 (Nat.le_refl _), far H.s.b2 (by omega), far H.s.b3 (by omega), h1, m, ⟨t.os.trans H.s.f.os, t.tape.trans H.s.f.tape, t.output.trans H.s.f.output, Nat.le_trans H.s.f.size t.size, fun k hk hne => (t.block k (Nat.lt_of_lt_of_le hk H.s.f.size) hne).trans (H.s.f.block k hk hne)⟩, hq, H.s.hg⟩, far H.bi (by omega), h2⟩
theorem RI.turn (H : RI w Z g q h o bs p I ic) (k : o'.Ok) : RI w (Z.setRow w.heap.size o'.cells) g q h o' bs p I ic :=
  have h1 := H.s.hp
  have h2 := H.hI
  have h3 := H.s.hq
  have h4 := H.s.hg
  ⟨⟨H.s.k, k, setRow_heap _ _ _ _ _ _ H.s.b1, (setRow_other _ _ _ _ (by omega)).trans H.s.b2, (setRow_other _ _ _ _ (by omega)).trans H.s.b3, h1, ⟨(setRow_other _ _ _ _ (by omega)).trans H.s.m.1, (setRow_other _ _ _ _ (by omega)).trans H.s.m.2.1, H.s.m.2.2⟩,
    ⟨H.s.f.os, H.s.f.tape, H.s.f.output, by rw [size_setRow]; exact H.s.f.size, fun k hk hne => (setRow_other _ _ _ _ (by omega)).trans (H.s.f.block k hk hne)⟩, h3, h4⟩, (setRow_other _ _ _ _ (by omega)).trans H.bi, h2⟩
/-- What a step hands back. -/
theorem RS.back (H : RS w Z g q h o bs p) (t : HartS × List Int × Int) (kr : t.1.Ok) (hbs : bs = t.2.1) (tmps : Array Value) (ds) (h4 : tmps.getD 4 undef = .pointer (some ⟨w.heap.size + 1, 0, none⟩)) (h5 : tmps.getD 5 undef = .int .i64 t.2.2) (hd : ds = []) :
    bodyPost Tryz.prog Tryz.f13 (RSPost w g q t) .ret ⟨tmps, ds⟩ (Z.setRow (w.heap.size + 1) t.1.cells) := by
  subst hd
  have h1 := H.hq
  have h2 := H.hg
  have b := setRow_heap _ _ _ t.1.cells _ _ H.b2
  have m : RefAt (Z.setRow (w.heap.size + 1) t.1.cells) g q bs := ⟨(setRow_other _ _ _ _ (by omega)).trans H.m.1, (setRow_other _ _ _ _ (by omega)).trans H.m.2.1, H.m.2.2⟩
  have f : w.grownBy (Z.setRow (w.heap.size + 1) t.1.cells) (some q) := ⟨H.f.os, H.f.tape, H.f.output, by rw [size_setRow]; exact H.f.size, fun k hk hne => (setRow_other _ _ _ _ (by omega)).trans (H.f.block k hk hne)⟩
  refine bodyPost_ret (v := .tuple #[.agg t.1.cells, .int .i64 t.2.2]) ?_ rfl ⟨rfl, hbs ▸ m, f⟩
  rw [← h5]
  exact M.results_cell_tmp (fn := Tryz.f13) (by kernel_rfl) tmps _ _ _ _ _ h4 b Tryz.underlying36 rfl (rhart_info.trans (congrArg some (HartS.size kr).symm))
theorem rs_start {X Y : World} {zc : Array Value} (M : RefAt w g q bs) (hk : h.Ok) (hX : w.alloc (.cells h.cells 36) = X) (hY : X.alloc (.cells H0.cells 36) = Y) (hZ : (Y.alloc (.cells zc 36)).setRow Y.heap.size h.cells = Z) : RS w Z g q h h bs Y.heap.size := by
  have s1 : X.heap.size = w.heap.size + 1 := by rw [← hX, World.size_alloc]
  have s2 : Y.heap.size = w.heap.size + 1 + 1 := by rw [← hY, World.size_alloc, s1]
  rw [World.setRow_alloc_new] at hZ
  have d1 : Below w.heap.size w X := hX ▸ ((Below.refl w.heap.size w).alloc (Nat.le_refl _) _)
  have d2 : Below w.heap.size w Y := hY ▸ (d1.alloc d1.size _)
  have d3 : Below w.heap.size w Z := hZ ▸ (d2.alloc d2.size _)
  have b2 := Blk.new_eq hY
  rw [s1] at b2
  exact ⟨hk, hk, ((Blk.new_eq hX).alloc_eq hY).alloc_eq hZ, b2.alloc_eq hZ, Blk.new_eq hZ, by omega, M.below d3, ⟨d3.os, d3.tape, d3.output, d3.size, fun k hk _ => d3.block k hk⟩, M.2.1.lt, M.1.lt⟩
end
set_option maxHeartbeats 16000000 in
set_option maxRecDepth 100000 in
theorem rstep_any (h : HartS) (g q : Nat) (bs : List Int) (w : World) (hk : h.Ok) (M : RefAt w g q bs) :
    Calls Tryz.prog 13 #[.agg h.cells, .pointer (some ⟨g, 0, none⟩)] w (RSPost w g q (stepOf h bs)) := by
  generalize hT : stepOf h bs = t
  replace hT := Lib.hid hT
  have HD := Lib.hid (r_decode _ (u32_range (loadOf bs h.pc 4)))
  have HM := Lib.hid M
  have HK := Lib.hid hk
  have hbs := M.2.2.1
  clear M hk
  go_enter Tryz.func13, Tryz.ntmps13
  go_wp2_with (first | (refine wpList_load_row rfl 36 _ rfl w.heap.size rfl 36 _ _ _ ((Blk.new w h.cells 36).alloc _) Tryz.underlying36 rfl (rhart_info.trans (congrArg some (HartS.size HK.out).symm)) ?_; generalize hX : World.alloc w _ = X; generalize hY : World.alloc X _ = Y) | (refine wpList_store_row rfl 36 _ _ rfl Y.heap.size h.cells rfl rfl 36 _ (Blk.new _ _ _) (rhart_info.trans (congrArg some (HartS.size HK.out).symm)) (HartS.size HK.out).symm h.one ?_; generalize hZ : World.setRow _ _ _ = Z; have H := rs_start HM.out HK.out hX hY hZ; have c0 := (H.b1.cell 0).trans h.c0; have H := Lib.hid H; clear hX hY hZ HM; generalize Y.heap.size = p at *))
  refine (LoadRef_any _ g q bs _ 4 H.out.m HK.out.2.1 (by decide)).mono ?_
  rintro e W ⟨rfl, rfl⟩
  clear c0
  have e := hT.out
  unfold stepOf at e
  clear hT
  by_cases hE : numE bs.length h.pc 4 = 0
  · rw [if_neg (show ¬ numE bs.length h.pc 4 ≠ 0 from fun x => x hE)] at e
    rw [hE]
    go_wp2_with fail
    refine (HD.out _).mono ?_
    rintro x W1 ⟨rfl, hd⟩
    replace H := Lib.hid (H.out.below hd)
    clear hd HD
    generalize IntKind.u32.wrap (loadOf bs h.pc 4) = wd at *
    change (if decOp wd = 0 then (h, bs, 21) else if decOp wd = 51 ∨ decOp wd = 52 then (h, bs, 60) else doOf h bs (decOp wd) (decRd (decOp wd) wd) (decRs1 (decOp wd) wd) (decRs2 (decOp wd) wd) (decImm (formOf (decOp wd)) wd)) = t at e
    by_cases h0 : decOp wd = 0
    · rw [if_pos h0] at e
      subst e
      rw [h0]
      have e2 : decTup wd 0 = (0, 0, 0, 0, 0, false, false, 21) := rfl
      rw [e2]
      dsimp only
      go_upto_region 7 with fail
      generalize hI : World.alloc W1 _ = W2
      replace H := Lib.hid (H.out.alloc hI)
      clear hI
      go_wp2_with (first | (refine wpList_load_row rfl 36 _ rfl p rfl 36 _ _ _ H.out.b3 Tryz.underlying36 rfl H.out.sh ?_) | (refine wpList_store_row rfl 36 _ _ rfl (w.heap.size + 1) _ rfl rfl 36 _ H.out.b2 H.out.sh (HartS.size H.out.k).symm (HartS.one _) ?_))
      exact H.out.back (h, bs, 21) H.out.k rfl _ _ (by rfl) (by rfl) rfl
    · rw [if_neg h0] at e
      have e2 : decTup wd (decOp wd) = (decOp wd, decRd (decOp wd) wd, decRs1 (decOp wd) wd, decRs2 (decOp wd) wd, decImm (formOf (decOp wd)) wd, decAq (decOp wd) wd, decRl (decOp wd) wd, 0) := by unfold decTup; rw [if_neg h0]
      rw [e2]
      dsimp only
      have hg := hit_good (decOp_hit wd h0)
      have hI := decImm_I64 (formOf (decOp wd)) wd
      clear e2 h0
      generalize decOp wd = op at *
      generalize decImm (formOf op) wd = imm at *
      generalize decAq op wd = aq at *
      generalize decRl op wd = rl at *
      have G := goodI hg
      obtain ⟨rd, e1⟩ : ∃ k : Nat, decRd op wd = k := ⟨(decRd op wd).toNat, by have := G.rd0; omega⟩
      obtain ⟨rs1, e2⟩ : ∃ k : Nat, decRs1 op wd = k := ⟨(decRs1 op wd).toNat, by have := G.rs10; omega⟩
      obtain ⟨rs2, e3⟩ : ∃ k : Nat, decRs2 op wd = k := ⟨(decRs2 op wd).toNat, by have := G.rs20; omega⟩
      have l0 : rd < 32 := by have := G.rd1; omega
      have l1 : rs1 < 32 := by have := G.rs11; omega
      have l2 : rs2 < 32 := by have := G.rs21; omega
      rw [e1, e2, e3] at hg e ⊢
      clear e1 e2 e3 G
      by_cases hc : op = 51 ∨ op = 52
      · rw [if_pos hc] at e
        subst e
        rcases hc with rfl | rfl
        all_goals (
          go_upto_region 9 with fail
          generalize hI : World.alloc W1 _ = W2
          replace H := Lib.hid (H.out.alloc hI)
          clear hI
          go_wp2_with (first | (refine wpList_load_row rfl 36 _ rfl p rfl 36 _ _ _ H.out.b3 Tryz.underlying36 rfl H.out.sh ?_) | (refine wpList_store_row rfl 36 _ _ rfl (w.heap.size + 1) _ rfl rfl 36 _ H.out.b2 H.out.sh (HartS.size H.out.k).symm (HartS.one _) ?_))
          exact H.out.back (h, bs, 60) H.out.k rfl _ _ (by rfl) (by rfl) rfl)
      · rw [if_neg hc] at e
        have n1 : (op == 51) = false := by simpa using fun e => hc (.inl e)
        have n2 : (op == 52) = false := by simpa using fun e => hc (.inr e)
        clear hc
        rw [do_eq] at e
        dsimp only at e
        have ko := HK.out.set 0 0 (by decide)
        have hra := ko.reg rs1
        have hrb := ko.reg rs2
        have R1 := Lib.hid (fun W => r_reg h rs1 W l1 HK.out)
        have R2 := Lib.hid (fun W => r_reg h rs2 W l2 HK.out)
        have HS := Lib.hid (fun W => r_size op W)
        have HTg := Lib.hid (fun W => r_target op rd rs1 rs2 imm ((h.set 0 0).reg rs1) aq rl W h.pc)
        have HTk := Lib.hid (fun W => r_taken op rd rs1 rs2 imm ((h.set 0 0).reg rs1) ((h.set 0 0).reg rs2) aq rl W hI hg hra hrb)
        have HV := Lib.hid (fun W => r_value op rd rs1 rs2 imm ((h.set 0 0).reg rs1) ((h.set 0 0).reg rs2) aq rl W hI hg h.pc hra hrb)
        have HTo := Lib.hid (fun W M => rtouch_any op rd rs2 imm ((h.set 0 0).reg rs2) rs1 aq rl h g q bs W HK.out M l1 hrb)
        have utg := target_range op imm h.pc ((h.set 0 0).reg rs1)
        have vr := value_range op imm h.pc _ _ hra hrb
        have hsp := size_pos op
        have hpc := touch_pc h bs op (addrOf op imm ((h.set 0 0).reg rs1)) (PAll.sizeOf op) ((h.set 0 0).reg rs2)
        have r1 : (rd : Int) < 32 := by omega
        have r0 : (0 : Int) ≤ (rd : Int) := by omega
        have z0 : U64 0 := by decide
        generalize touchAt h bs op (addrOf op imm ((h.set 0 0).reg rs1)) (PAll.sizeOf op) ((h.set 0 0).reg rs2) = tt at *
        generalize (h.set 0 0).reg (rs1 : Int) = a at *
        generalize (h.set 0 0).reg (rs2 : Int) = b at *
        generalize targetOf op imm h.pc a = tg at *
        generalize hvv : valueOf op imm h.pc a b = vv at *
        obtain ⟨v, ve⟩ := vv
        generalize takenOf op a b = tk at *
        clear ko hg hI hvv
        go_upto_region 10 with fail
        generalize hI : World.alloc W1 _ = W2
        replace H := Lib.hid (H.out.inst hI)
        clear hI
        generalize W1.heap.size = I at *
        have j2 := H.out.bi.cell 2
        go_wp2_with (first | (refine wpList_load_row rfl 36 _ rfl w.heap.size rfl 36 _ _ _ H.out.s.b1 Tryz.underlying36 rfl H.out.s.si ?_))
        refine (R1.out _).mono ?_
        rintro x W3 ⟨rfl, hd⟩
        replace H := Lib.hid (H.out.below hd)
        clear hd
        clear j2
        have j3 := H.out.bi.cell 3
        go_wp2_with (first | (refine wpList_load_row rfl 36 _ rfl w.heap.size rfl 36 _ _ _ H.out.s.b1 Tryz.underlying36 rfl H.out.s.si ?_))
        refine (R2.out _).mono ?_
        rintro x W4 ⟨rfl, hd⟩
        replace H := Lib.hid (H.out.below hd)
        clear hd
        clear j3 R1 R2
        have j0 := H.out.bi.cell 0
        go_wp2_with fail
        refine (HS.out _).mono ?_
        rintro x W5 ⟨rfl, hd⟩
        replace H := Lib.hid (H.out.below hd)
        clear hd j0 HS
        generalize PAll.sizeOf op = n at *
        by_cases n0 : 0 < n
        · rw [if_pos n0] at e
          obtain ⟨h11, -⟩ := hsp n0
          have gn : decide (n > 0) = true := decide_eq_true n0
          clear hsp HV vr HTk
          obtain ⟨tv, te, oo, tb⟩ := tt
          dsimp only at e hpc
          go_wp2_with (first | (refine wpList_load_row rfl 36 _ rfl w.heap.size rfl 36 _ _ _ H.out.s.b1 Tryz.underlying36 rfl H.out.s.si ?_) | (refine wpList_load_row rfl 50 _ rfl I rfl 50 _ _ _ H.out.bi Tryz.underlying50 rfl ins_info ?_))
          refine (HTo.out _ H.out.s.m).mono ?_
          rintro x W6 ⟨v, o, rfl, ko, hv, hto, hM, hG⟩
          replace H := Lib.hid (H.out.mem hG hM)
          clear hM hG HTo gn
          dsimp only at hto H ⊢
          by_cases he : te = 0
          · subst he
            rw [if_neg (show ¬ (0 : Int) ≠ 0 from fun x => x rfl), if_neg (show ¬ (5 ≤ op ∧ op ≤ 10 ∧ tk = false) by omega)] at e
            obtain ⟨rfl, rfl⟩ := hto rfl
            subst e
            have g5 : op ≥ 5 := by omega
            have g10 : decide (op ≤ 10) = false := decide_eq_false (by omega)
            have opc : HartS.pc o = h.pc := hpc
            go_upto_region 18 with (first | (refine wpList_store_row rfl 36 _ _ rfl w.heap.size _ rfl rfl 36 _ H.out.s.b1 (rhart_info.trans (congrArg some (HartS.size ko).symm)) ((HartS.size H.out.s.ko).trans (HartS.size ko).symm) (HartS.one _) ?_; (generalize hZ : World.setRow _ _ _ = Z2; replace H := Lib.hid (hZ ▸ H.out.turn ko); clear hZ)))
            have i0 := H.out.bi.cell 0
            have u0 := (H.out.s.b1.cell 0).trans (HartS.c0 _)
            rw [opc] at u0
            go_wp2_with (first | (refine wpList_load_row rfl 50 _ rfl I rfl 50 _ _ _ H.out.bi Tryz.underlying50 rfl ins_info ?_))
            refine (HTg.out _).mono ?_
            rintro e W8 ⟨rfl, hd⟩
            replace H := Lib.hid (H.out.below hd)
            clear hd u0 i0 g5 g10
            have upc : U64 (tg) := utg
            go_wp2_with (first | (refine wpList_store_u64 rfl 22 _ _ rfl w.heap.size (0) (tg) rfl rfl _ _ H.out.s.b1 (by rw [HartS.size H.out.s.ko]; omega) u64_info ?_; (generalize hZ : World.setCell _ _ _ = Z2; replace H := Lib.hid (hZ ▸ H.out.set (0) _ (({ o with pc := tg } : HartS)) (H.out.s.ko.pc _ upc) (HartS.s0 _ _)); clear hZ; have i1 := H.out.bi.cell 1)) | (refine wpList_store_u64 rfl 22 _ _ rfl w.heap.size (1 + rd) (v) rfl rfl _ _ H.out.s.b1 (by rw [HartS.size H.out.s.ko]; omega) u64_info ?_; (generalize hZ : World.setCell _ _ _ = Z2; replace H := Lib.hid (hZ ▸ H.out.set (1 + rd) _ (({ o with pc := tg } : HartS).set rd v) (H.out.s.ko.set _ _ hv) (HartS.sx H.out.s.ko rd l0 v)); clear hZ i1)) | (refine wpList_store_u64 rfl 22 _ _ rfl w.heap.size (1 + 0) (0) rfl rfl _ _ H.out.s.b1 (by rw [HartS.size H.out.s.ko]; omega) u64_info ?_; (generalize hZ : World.setCell _ _ _ = Z2; replace H := Lib.hid (hZ ▸ H.out.set (1 + 0) _ ((({ o with pc := tg } : HartS).set rd v).set 0 0) (H.out.s.ko.set 0 0 z0) (HartS.sx H.out.s.ko 0 (by decide) 0)); clear hZ)) | (refine wpList_load_row rfl 36 _ rfl w.heap.size rfl 36 _ _ _ H.out.s.b1 Tryz.underlying36 rfl H.out.s.si ?_) | (refine wpList_store_row rfl 36 _ _ rfl (w.heap.size + 1) _ rfl rfl 36 _ H.out.s.b2 H.out.s.si (HartS.size H.out.s.ko).symm (HartS.one _) ?_))
            exact H.out.s.back _ H.out.s.ko rfl _ _ rfl rfl rfl
          · rw [if_pos he] at e
            subst e
            have de : (te != 0) = true := by simpa using he
            go_upto_region 16 with (first | (refine wpList_store_row rfl 36 _ _ rfl w.heap.size _ rfl rfl 36 _ H.out.s.b1 (rhart_info.trans (congrArg some (HartS.size ko).symm)) ((HartS.size H.out.s.ko).trans (HartS.size ko).symm) (HartS.one _) ?_; (generalize hZ : World.setRow _ _ _ = Z2; replace H := Lib.hid (hZ ▸ H.out.turn ko); clear hZ)))
            go_wp2_with (first | (refine wpList_load_row rfl 36 _ rfl p rfl 36 _ _ _ H.out.s.b3 Tryz.underlying36 rfl H.out.s.sh ?_) | (refine wpList_store_row rfl 36 _ _ rfl (w.heap.size + 1) _ rfl rfl 36 _ H.out.s.b2 H.out.s.sh (HartS.size H.out.s.k).symm (HartS.one _) ?_))
            exact H.out.s.back (h, tb, te) H.out.s.k rfl _ _ (by rfl) (by rfl) rfl
        · rw [if_neg n0] at e
          dsimp only at e
          rw [if_neg (show ¬ (0 : Int) ≠ 0 from fun x => x rfl)] at e
          have gn : decide (n > 0) = false := decide_eq_false n0
          clear hsp HTo
          have u0 := (H.out.s.b1.cell 0).trans (HartS.c0 _)
          go_wp2_with (first | (refine wpList_load_row rfl 50 _ rfl I rfl 50 _ _ _ H.out.bi Tryz.underlying50 rfl ins_info ?_))
          refine (HV.out _).mono ?_
          rintro x W6 ⟨rfl, hd⟩
          replace H := Lib.hid (H.out.below hd)
          clear hd HV gn u0
          have hv := vr
          have i0 := H.out.bi.cell 0
          by_cases c5 : 5 ≤ op ∧ op ≤ 10
          · have g5 : op ≥ 5 := c5.1
            have g10 : op ≤ 10 := c5.2
            cases tk
            · rw [if_pos ⟨c5.1, c5.2, rfl⟩] at e
              subst e
              have i1 := H.out.bi.cell 1
              have i2 := H.out.bi.cell 2
              have i3 := H.out.bi.cell 3
              have i4 := H.out.bi.cell 4
              have i5 := H.out.bi.cell 5
              have i6 := H.out.bi.cell 6
              go_wp2_with fail
              refine (HTk.out _).mono ?_
              rintro x W7 ⟨rfl, hd⟩
              replace H := Lib.hid (H.out.below hd)
              clear hd i0 i1 i2 i3 i4 i5 i6 HTk
              have u0 := (H.out.s.b1.cell 0).trans (HartS.c0 _)
              have upc : U64 (IntKind.u64.wrap (h.pc + 4)) := U64.wrap _
              go_wp2_with (first | (refine wpList_store_u64 rfl 22 _ _ rfl w.heap.size (0) (IntKind.u64.wrap (h.pc + 4)) rfl rfl _ _ H.out.s.b1 (by rw [HartS.size H.out.s.ko]; omega) u64_info ?_; (generalize hZ : World.setCell _ _ _ = Z2; replace H := Lib.hid (hZ ▸ H.out.set (0) _ (({ h with pc := IntKind.u64.wrap (h.pc + 4) } : HartS)) (H.out.s.ko.pc _ upc) (HartS.s0 _ _)); clear hZ; have i1 := H.out.bi.cell 1)) | (refine wpList_store_u64 rfl 22 _ _ rfl w.heap.size (1 + rd) (v) rfl rfl _ _ H.out.s.b1 (by rw [HartS.size H.out.s.ko]; omega) u64_info ?_; (generalize hZ : World.setCell _ _ _ = Z2; replace H := Lib.hid (hZ ▸ H.out.set (1 + rd) _ (({ h with pc := IntKind.u64.wrap (h.pc + 4) } : HartS).set rd v) (H.out.s.ko.set _ _ hv) (HartS.sx H.out.s.ko rd l0 v)); clear hZ i1)) | (refine wpList_store_u64 rfl 22 _ _ rfl w.heap.size (1 + 0) (0) rfl rfl _ _ H.out.s.b1 (by rw [HartS.size H.out.s.ko]; omega) u64_info ?_; (generalize hZ : World.setCell _ _ _ = Z2; replace H := Lib.hid (hZ ▸ H.out.set (1 + 0) _ ((({ h with pc := IntKind.u64.wrap (h.pc + 4) } : HartS).set rd v).set 0 0) (H.out.s.ko.set 0 0 z0) (HartS.sx H.out.s.ko 0 (by decide) 0)); clear hZ)) | (refine wpList_load_row rfl 36 _ rfl w.heap.size rfl 36 _ _ _ H.out.s.b1 Tryz.underlying36 rfl H.out.s.si ?_) | (refine wpList_store_row rfl 36 _ _ rfl (w.heap.size + 1) _ rfl rfl 36 _ H.out.s.b2 H.out.s.si (HartS.size H.out.s.ko).symm (HartS.one _) ?_))
              exact H.out.s.back _ H.out.s.ko rfl _ _ rfl rfl rfl
            · rw [if_neg (fun x => by cases x.2.2)] at e
              subst e
              have i1 := H.out.bi.cell 1
              have i2 := H.out.bi.cell 2
              have i3 := H.out.bi.cell 3
              have i4 := H.out.bi.cell 4
              have i5 := H.out.bi.cell 5
              have i6 := H.out.bi.cell 6
              go_wp2_with fail
              refine (HTk.out _).mono ?_
              rintro x W7 ⟨rfl, hd⟩
              replace H := Lib.hid (H.out.below hd)
              clear hd i0 i1 i2 i3 i4 i5 i6 HTk
              have u0 := (H.out.s.b1.cell 0).trans (HartS.c0 _)
              go_wp2_with (first | (refine wpList_load_row rfl 50 _ rfl I rfl 50 _ _ _ H.out.bi Tryz.underlying50 rfl ins_info ?_))
              refine (HTg.out _).mono ?_
              rintro e W8 ⟨rfl, hd⟩
              replace H := Lib.hid (H.out.below hd)
              clear hd u0
              have upc : U64 (tg) := utg
              go_wp2_with (first | (refine wpList_store_u64 rfl 22 _ _ rfl w.heap.size (0) (tg) rfl rfl _ _ H.out.s.b1 (by rw [HartS.size H.out.s.ko]; omega) u64_info ?_; (generalize hZ : World.setCell _ _ _ = Z2; replace H := Lib.hid (hZ ▸ H.out.set (0) _ (({ h with pc := tg } : HartS)) (H.out.s.ko.pc _ upc) (HartS.s0 _ _)); clear hZ; have i1 := H.out.bi.cell 1)) | (refine wpList_store_u64 rfl 22 _ _ rfl w.heap.size (1 + rd) (v) rfl rfl _ _ H.out.s.b1 (by rw [HartS.size H.out.s.ko]; omega) u64_info ?_; (generalize hZ : World.setCell _ _ _ = Z2; replace H := Lib.hid (hZ ▸ H.out.set (1 + rd) _ (({ h with pc := tg } : HartS).set rd v) (H.out.s.ko.set _ _ hv) (HartS.sx H.out.s.ko rd l0 v)); clear hZ i1)) | (refine wpList_store_u64 rfl 22 _ _ rfl w.heap.size (1 + 0) (0) rfl rfl _ _ H.out.s.b1 (by rw [HartS.size H.out.s.ko]; omega) u64_info ?_; (generalize hZ : World.setCell _ _ _ = Z2; replace H := Lib.hid (hZ ▸ H.out.set (1 + 0) _ ((({ h with pc := tg } : HartS).set rd v).set 0 0) (H.out.s.ko.set 0 0 z0) (HartS.sx H.out.s.ko 0 (by decide) 0)); clear hZ)) | (refine wpList_load_row rfl 36 _ rfl w.heap.size rfl 36 _ _ _ H.out.s.b1 Tryz.underlying36 rfl H.out.s.si ?_) | (refine wpList_store_row rfl 36 _ _ rfl (w.heap.size + 1) _ rfl rfl 36 _ H.out.s.b2 H.out.s.si (HartS.size H.out.s.ko).symm (HartS.one _) ?_))
              exact H.out.s.back _ H.out.s.ko rfl _ _ rfl rfl rfl
          · rw [if_neg (fun x => c5 ⟨x.1, x.2.1⟩)] at e
            subst e
            have c6 : op < 5 ∨ 10 < op := by omega
            clear c5
            rcases c6 with c6 | c6
            · have g5 : decide (op ≥ 5) = false := decide_eq_false (by omega)
              have u0 := (H.out.s.b1.cell 0).trans (HartS.c0 _)
              go_wp2_with (first | (refine wpList_load_row rfl 50 _ rfl I rfl 50 _ _ _ H.out.bi Tryz.underlying50 rfl ins_info ?_))
              refine (HTg.out _).mono ?_
              rintro e W8 ⟨rfl, hd⟩
              replace H := Lib.hid (H.out.below hd)
              clear hd u0 i0 g5
              have upc : U64 (tg) := utg
              go_wp2_with (first | (refine wpList_store_u64 rfl 22 _ _ rfl w.heap.size (0) (tg) rfl rfl _ _ H.out.s.b1 (by rw [HartS.size H.out.s.ko]; omega) u64_info ?_; (generalize hZ : World.setCell _ _ _ = Z2; replace H := Lib.hid (hZ ▸ H.out.set (0) _ (({ h with pc := tg } : HartS)) (H.out.s.ko.pc _ upc) (HartS.s0 _ _)); clear hZ; have i1 := H.out.bi.cell 1)) | (refine wpList_store_u64 rfl 22 _ _ rfl w.heap.size (1 + rd) (v) rfl rfl _ _ H.out.s.b1 (by rw [HartS.size H.out.s.ko]; omega) u64_info ?_; (generalize hZ : World.setCell _ _ _ = Z2; replace H := Lib.hid (hZ ▸ H.out.set (1 + rd) _ (({ h with pc := tg } : HartS).set rd v) (H.out.s.ko.set _ _ hv) (HartS.sx H.out.s.ko rd l0 v)); clear hZ i1)) | (refine wpList_store_u64 rfl 22 _ _ rfl w.heap.size (1 + 0) (0) rfl rfl _ _ H.out.s.b1 (by rw [HartS.size H.out.s.ko]; omega) u64_info ?_; (generalize hZ : World.setCell _ _ _ = Z2; replace H := Lib.hid (hZ ▸ H.out.set (1 + 0) _ ((({ h with pc := tg } : HartS).set rd v).set 0 0) (H.out.s.ko.set 0 0 z0) (HartS.sx H.out.s.ko 0 (by decide) 0)); clear hZ)) | (refine wpList_load_row rfl 36 _ rfl w.heap.size rfl 36 _ _ _ H.out.s.b1 Tryz.underlying36 rfl H.out.s.si ?_) | (refine wpList_store_row rfl 36 _ _ rfl (w.heap.size + 1) _ rfl rfl 36 _ H.out.s.b2 H.out.s.si (HartS.size H.out.s.ko).symm (HartS.one _) ?_))
              exact H.out.s.back _ H.out.s.ko rfl _ _ rfl rfl rfl
            · have g5 : op ≥ 5 := by omega
              have g10 : decide (op ≤ 10) = false := decide_eq_false (by omega)
              have u0 := (H.out.s.b1.cell 0).trans (HartS.c0 _)
              go_wp2_with (first | (refine wpList_load_row rfl 50 _ rfl I rfl 50 _ _ _ H.out.bi Tryz.underlying50 rfl ins_info ?_))
              refine (HTg.out _).mono ?_
              rintro e W8 ⟨rfl, hd⟩
              replace H := Lib.hid (H.out.below hd)
              clear hd u0 i0 g5 g10
              have upc : U64 (tg) := utg
              go_wp2_with (first | (refine wpList_store_u64 rfl 22 _ _ rfl w.heap.size (0) (tg) rfl rfl _ _ H.out.s.b1 (by rw [HartS.size H.out.s.ko]; omega) u64_info ?_; (generalize hZ : World.setCell _ _ _ = Z2; replace H := Lib.hid (hZ ▸ H.out.set (0) _ (({ h with pc := tg } : HartS)) (H.out.s.ko.pc _ upc) (HartS.s0 _ _)); clear hZ; have i1 := H.out.bi.cell 1)) | (refine wpList_store_u64 rfl 22 _ _ rfl w.heap.size (1 + rd) (v) rfl rfl _ _ H.out.s.b1 (by rw [HartS.size H.out.s.ko]; omega) u64_info ?_; (generalize hZ : World.setCell _ _ _ = Z2; replace H := Lib.hid (hZ ▸ H.out.set (1 + rd) _ (({ h with pc := tg } : HartS).set rd v) (H.out.s.ko.set _ _ hv) (HartS.sx H.out.s.ko rd l0 v)); clear hZ i1)) | (refine wpList_store_u64 rfl 22 _ _ rfl w.heap.size (1 + 0) (0) rfl rfl _ _ H.out.s.b1 (by rw [HartS.size H.out.s.ko]; omega) u64_info ?_; (generalize hZ : World.setCell _ _ _ = Z2; replace H := Lib.hid (hZ ▸ H.out.set (1 + 0) _ ((({ h with pc := tg } : HartS).set rd v).set 0 0) (H.out.s.ko.set 0 0 z0) (HartS.sx H.out.s.ko 0 (by decide) 0)); clear hZ)) | (refine wpList_load_row rfl 36 _ rfl w.heap.size rfl 36 _ _ _ H.out.s.b1 Tryz.underlying36 rfl H.out.s.si ?_) | (refine wpList_store_row rfl 36 _ _ rfl (w.heap.size + 1) _ rfl rfl 36 _ H.out.s.b2 H.out.s.si (HartS.size H.out.s.ko).symm (HartS.one _) ?_))
              exact H.out.s.back _ H.out.s.ko rfl _ _ rfl rfl rfl
  · rw [if_pos hE] at e
    subst e
    have de : (numE bs.length h.pc 4 != 0) = true := by simpa using hE
    clear hbs HD
    generalize numE bs.length h.pc 4 = E at *
    go_wp2_with (first | (refine wpList_load_row rfl 36 _ rfl p rfl 36 _ _ _ H.out.b3 Tryz.underlying36 rfl H.out.sh ?_) | (refine wpList_store_row rfl 36 _ _ rfl (w.heap.size + 1) _ rfl rfl 36 _ H.out.b2 H.out.sh (HartS.size H.out.k).symm (HartS.one _) ?_))
    exact H.out.back (h, bs, E) H.out.k rfl _ _ (by rfl) (by rfl) rfl
def RRPost (w : World) (g q : Nat) (r : HartS × List Int × Nat × Int) (e : Ending) (w' : World) : Prop :=
  e = .returned (.tuple #[.agg r.1.cells, .int .i64 (r.2.2.1 : Nat), .int .i64 r.2.2.2]) ∧ RefAt w' g q r.2.1 ∧ w.grownBy w' (some q)
structure RR (w Z : World) (g q : Nat) (x : HartS) (bs : List Int) : Prop where
  k : x.Ok
  b1 : Blk Z w.heap.size x.cells 36
  b2 : Blk Z (w.heap.size + 1) H0.cells 36
  m : RefAt Z g q bs
  f : w.grownBy Z (some q)
  hq : q < w.heap.size
  hg : g < w.heap.size
section
variable {w Z Z' : World} {g q : Nat} {x y : HartS} {bs bs' : List Int}
theorem RR.below (H : RR w Z g q x bs) (d : Below Z.heap.size Z Z') : RR w Z' g q x bs := ⟨H.k, H.b1.below d, H.b2.below d, H.m.below d, grown_below H.f d, H.hq, H.hg⟩
theorem RR.si (H : RR w Z g q x bs) : (Tryz.prog.info? 36).map (·.size) = some x.cells.size := rhart_info.trans (congrArg some (HartS.size H.k).symm)
theorem RR.mem (H : RR w Z g q x bs) (t : Z.grownBy Z' (some q)) (m : RefAt Z' g q bs') : RR w Z' g q x bs' :=
  have hq := H.hq
  have far : ∀ {b : Nat} {cs : Array Value} {T : Nat}, Blk Z b cs T → w.heap.size ≤ b → Blk Z' b cs T := fun B hb => (t.block _ B.lt (fun e => by injection e with e; omega)).trans B
  ⟨H.k, far H.b1 (Nat.le_refl _), far H.b2 (by omega), m, ⟨t.os.trans H.f.os, t.tape.trans H.f.tape, t.output.trans H.f.output, Nat.le_trans H.f.size t.size, fun k hk hne => (t.block k (Nat.lt_of_lt_of_le hk H.f.size) hne).trans (H.f.block k hk hne)⟩, hq, H.hg⟩
theorem RR.turn (H : RR w Z g q x bs) (k : y.Ok) : RR w (Z.setRow w.heap.size y.cells) g q y bs :=
  have h3 := H.hq
  have h4 := H.hg
  ⟨k, setRow_heap _ _ _ _ _ _ H.b1, (setRow_other _ _ _ _ (by omega)).trans H.b2, ⟨(setRow_other _ _ _ _ (by omega)).trans H.m.1, (setRow_other _ _ _ _ (by omega)).trans H.m.2.1, H.m.2.2⟩,
    ⟨H.f.os, H.f.tape, H.f.output, by rw [size_setRow]; exact H.f.size, fun k hk hne => (setRow_other _ _ _ _ (by omega)).trans (H.f.block k hk hne)⟩, h3, h4⟩
theorem RR.new {zc : Array Value} (H : RR w Z g q x bs) (e : (Z.alloc (.cells zc 36)).setRow Z.heap.size y.cells = Z') : RR w Z' g q x bs ∧ Blk Z' Z.heap.size y.cells 36 := by
  rw [World.setRow_alloc_new] at e
  exact ⟨H.below (e ▸ ((Below.refl Z.heap.size Z).alloc (Nat.le_refl _) _)), Blk.new_eq e⟩
theorem RR.ends (H : RR w Z g q x bs) (n : Nat) (e : Int) (tmps : Array Value) (ds) (h6 : tmps.getD 6 undef = .pointer (some ⟨w.heap.size + 1, 0, none⟩)) (h7 : tmps.getD 7 undef = .int .i64 n) (h8 : tmps.getD 8 undef = .int .i64 e) (hd : ds = []) :
    bodyPost Tryz.prog Tryz.f8 (RRPost w g q (x, bs, n, e)) .ret ⟨tmps, ds⟩ (Z.setRow (w.heap.size + 1) x.cells) := by
  subst hd
  have h1 := H.hq
  have h2 := H.hg
  refine bodyPost_ret (v := .tuple #[.agg x.cells, .int .i64 n, .int .i64 e]) ?_ rfl ⟨rfl, ⟨(setRow_other _ _ _ _ (by omega)).trans H.m.1, (setRow_other _ _ _ _ (by omega)).trans H.m.2.1, H.m.2.2⟩, ⟨H.f.os, H.f.tape, H.f.output, by rw [size_setRow]; exact H.f.size, fun k hk hne => (setRow_other _ _ _ _ (by omega)).trans (H.f.block k hk hne)⟩⟩
  rw [← h7, ← h8]
  exact results_cell_tmp2 (fn := Tryz.f8) (by kernel_rfl) tmps _ _ _ _ _ h6 (setRow_heap _ _ _ _ _ _ H.b2) Tryz.underlying36 rfl H.si
theorem rr_start {X : World} (M : RefAt w g q bs) (hk : x.Ok) (hX : w.alloc (.cells x.cells 36) = X) (hY : X.alloc (.cells H0.cells 36) = Z) : RR w Z g q x bs := by
  have s1 : X.heap.size = w.heap.size + 1 := by rw [← hX, World.size_alloc]
  have d1 : Below w.heap.size w X := hX ▸ ((Below.refl w.heap.size w).alloc (Nat.le_refl _) _)
  have d2 : Below w.heap.size w Z := hY ▸ (d1.alloc d1.size _)
  have b2 := Blk.new_eq hY
  rw [s1] at b2
  exact ⟨hk, (Blk.new_eq hX).alloc_eq hY, b2, M.below d2, ⟨d2.os, d2.tape, d2.output, d2.size, fun k hk _ => d2.block k hk⟩, M.2.1.lt, M.1.lt⟩
end
set_option maxHeartbeats 16000000 in
set_option maxRecDepth 100000 in
theorem rrun_any (y : HartS) (g q n : Nat) (bs : List Int) (w : World) (hk : y.Ok) (M : RefAt w g q bs) (hn : n ≤ 1000) :
    Calls Tryz.prog 8 #[.agg y.cells, .pointer (some ⟨g, 0, none⟩), .int .i64 (n : Int)] w (RRPost w g q (runOf n y bs)) := by
  have HM := Lib.hid M
  have HK := Lib.hid hk
  clear M hk
  go_enter Tryz.func8, Tryz.ntmps8
  go_wp2_with fail
  generalize hX : World.alloc w _ = X
  generalize hY : World.alloc X _ = Y
  have H := Lib.hid (rr_start HM.out HK.out hX hY)
  clear hX hY
  go_loopw [9] (fun i wr => ∃ j : Nat, j ≤ n ∧ i = .int .i64 j ∧ ∃ x bs1, Hid (RR w wr g q x bs1) ∧ Hid (addOf j (runOf (n - j) x bs1) = runOf n y bs)) (fun i _ => n - (intOf i).toNat)
  case atStart => exact ⟨0, by omega, rfl, _, _, H, Lib.hid rfl⟩
  case round =>
    obtain ⟨j, hj, rfl, x, bs1, HS, HR⟩ := hrel
    by_cases hlt : j < n
    · obtain ⟨k, hk⟩ : ∃ k, n - j = k + 1 := ⟨n - j - 1, by omega⟩
      rw [hk] at HR
      go_wp2_with (first | refine wpList_load_row rfl 36 _ rfl (w.heap.size) rfl 36 _ _ _ HS.out.b1 Tryz.underlying36 rfl HS.out.si ?_)
      refine (rstep_any x g q bs1 wr HS.out.k HS.out.m).mono ?_
      rintro e W2 ⟨rfl, hM, hG⟩
      have ko := Lib.hid (step_ok x bs1 HS.out.k HS.out.m.2.2.1)
      have HS2 := Lib.hid (HS.out.mem hG hM)
      have R1 := Lib.hid (run_go x bs1 k)
      have R2 := Lib.hid (run_stop x bs1 k)
      clear hM hG HS
      generalize stepOf x bs1 = r at *
      obtain ⟨x2, bs2, er⟩ := r
      dsimp only at *
      by_cases he : er = 0
      · subst he
        have R3 := Lib.hid (show addOf (j + 1) (runOf (n - (j + 1)) x2 bs2) = runOf n y bs from by rw [show n - (j + 1) = k by omega, ← HR.out, R1.out rfl, add_add, Nat.add_comm])
        clear R1 R2 HR
        go_wp2_with (first | (refine wpList_store_row rfl 36 _ _ rfl (W2.heap.size) _ rfl rfl 36 _ (Blk.new _ _ _) (rhart_info.trans (congrArg some (HartS.size ko.out).symm)) (HartS.size ko.out).symm (HartS.one _) ?_; (generalize hZ : World.setRow _ _ _ = Z; obtain ⟨h3, h4⟩ := RR.new HS2.out hZ; have HS3 := Lib.hid h3; have B3 := Lib.hid h4; clear hZ h3 h4 HS2)) | (refine wpList_load_row rfl 36 _ rfl (W2.heap.size) rfl 36 _ _ _ B3.out Tryz.underlying36 rfl (rhart_info.trans (congrArg some (HartS.size ko.out).symm)) ?_) | (refine wpList_store_row rfl 36 _ _ rfl (w.heap.size) _ rfl rfl 36 _ HS3.out.b1 (rhart_info.trans (congrArg some (HartS.size ko.out).symm)) ((HartS.size HS3.out.k).trans (HartS.size ko.out).symm) (HartS.one _) ?_; (generalize hZ : World.setRow Z _ _ = Z2; have HS4 := Lib.hid (hZ ▸ HS3.out.turn ko.out); clear hZ HS3 B3)))
        go_roundw
        case rel => exact ⟨j + 1, by omega, by go_num, x2, bs2, HS4, R3⟩
        case measure => simp [intOf]; omega
      · have R3 := Lib.hid (show addOf j (x, bs2, 0, er) = runOf n y bs from (congrArg (addOf j) (R2.out he)).symm.trans HR.out)
        have de : (er != 0) = true := by simpa using he
        clear R1 R2 HR
        have R4 : runOf n y bs = (x, bs2, j, er) := by rw [← R3.out]; simp [addOf]
        clear R3
        go_wp2_with (first | (refine wpList_store_row rfl 36 _ _ rfl (W2.heap.size) _ rfl rfl 36 _ (Blk.new _ _ _) (rhart_info.trans (congrArg some (HartS.size ko.out).symm)) (HartS.size ko.out).symm (HartS.one _) ?_; (generalize hZ : World.setRow _ _ _ = Z; obtain ⟨h3, h4⟩ := RR.new HS2.out hZ; have HS3 := Lib.hid h3; clear hZ h3 h4 HS2)) | (refine wpList_load_row rfl 36 _ rfl (w.heap.size) rfl 36 _ _ _ HS3.out.b1 Tryz.underlying36 rfl HS3.out.si ?_) | (refine wpList_store_row rfl 36 _ _ rfl (w.heap.size + 1) _ rfl rfl 36 _ HS3.out.b2 HS3.out.si (HartS.size HS3.out.k).symm (HartS.one _) ?_))
        rw [R4]
        exact HS3.out.ends j er _ _ (by rfl) (by rfl) (by rfl) rfl
    · obtain rfl : j = n := by omega
      have R4 : runOf j y bs = (x, bs1, j, 0) := by rw [← HR.out, Nat.sub_self]; simp [addOf, runOf]
      clear HR
      go_wp2_with (first | (refine wpList_load_row rfl 36 _ rfl (w.heap.size) rfl 36 _ _ _ HS.out.b1 Tryz.underlying36 rfl HS.out.si ?_) | (refine wpList_store_row rfl 36 _ _ rfl (w.heap.size + 1) _ rfl rfl 36 _ HS.out.b2 HS.out.si (HartS.size HS.out.k).symm (HartS.one _) ?_))
      rw [R4]
      exact HS.out.ends j 0 _ _ (by rfl) (by rfl) (by rfl) rfl
end Go.Proofs.YtcjfafhbohkhlaaGreat.Hand
