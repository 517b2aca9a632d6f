/- DERIVED. DERIVED. What the reference's instruction does to its memory. -/
import Derived.Test.YtcjfafhbohkhlaaGreatProg
import Derived.Test.YtcjfafhbohkhlaaGreatMBits
import Derived.Test.YtcjfafhbohkhlaaGreatMWalk
import Derived.Test.YtcjfafhbohkhlaaGreatMTab
import Derived.Test.YtcjfafhbohkhlaaGreatMInst
import Derived.Test.YtcjfafhbohkhlaaGreatMDec
import Derived.Test.YtcjfafhbohkhlaaGreatMDec2
import Derived.Test.YtcjfafhbohkhlaaGreatMQTail
import Derived.Test.YtcjfafhbohkhlaaGreatMArg
import Derived.Test.YtcjfafhbohkhlaaGreatMMem
import Derived.Test.YtcjfafhbohkhlaaGreatMMemK
import Derived.Test.YtcjfafhbohkhlaaGreatMMemR
import Derived.Test.YtcjfafhbohkhlaaGreatMHart
import Derived.Test.YtcjfafhbohkhlaaGreatMRow
import Derived.Test.YtcjfafhbohkhlaaGreatMOpen
import Derived.Test.YtcjfafhbohkhlaaGreatMPart
import Derived.Test.YtcjfafhbohkhlaaGreatMReg
import Derived.Test.YtcjfafhbohkhlaaGreatMQHead
import Derived.Test.YtcjfafhbohkhlaaGreatMQTwo
import Derived.Test.YtcjfafhbohkhlaaGreatHP
import Derived.Test.YtcjfafhbohkhlaaGreatPAllx0
import Derived.Test.YtcjfafhbohkhlaaGreatPAllx2
import Derived.Test.YtcjfafhbohkhlaaGreatPAllx4
import Derived.Test.YtcjfafhbohkhlaaGreatPAllx5
import Derived.Test.YtcjfafhbohkhlaaGreatPAllx6
import Derived.Test.YtcjfafhbohkhlaaGreatPAllx9
import Derived.Test.YtcjfafhbohkhlaaGreatPAllx11
import Derived.Test.YtcjfafhbohkhlaaGreatPAllx12
import Derived.Test.YtcjfafhbohkhlaaGreatPAllx14
import Derived.Test.YtcjfafhbohkhlaaGreatPAllx16
import Derived.Test.YtcjfafhbohkhlaaGreatPAllx20
import Derived.Below
import Derived.Deep.Draws
import Derived.Deep.AppendLies
import Derived.Maps.AppendAt
import Derived.OwnWalk
import Derived.Laws.BytesArg
import Derived.Laws.MakeOwn
import Derived.Laws.OwnMore
import Derived.Deep.OwnRows
import Derived.Tactics
import Derived.Lib.ConvBytes
import Derived.Laws.Slices
import Derived.WalkKit
import Derived.KernelRfl
import Derived.RowKit3
import Derived.Deep.LoopGhost
import Derived.Deep.QuietTactic
import Derived.BigQuiet
import Derived.WideLaws
import Derived.Deep.DeepCutAuto
import Derived.Deep.CutBlock
import Derived.Deep.RegionHeld3
import Derived.Laws.Rows
import Derived.Lib.AppendStr
import Derived.ArgAppend
import Derived.Laws.IdiomCopy
import Derived.OrdersHeld
import Derived.Laws.BitsLemmas
import Derived.Laws.Bits64
import Derived.RowKit
import Derived.Outline
import Derived.Handy
import Derived.Lib.Hide
import Derived.Deep.Light
import Derived.Laws.CopyOwn
namespace Go.Proofs.YtcjfafhbohkhlaaGreat.Hand
open Go Go.RowKit Go.Proofs.YtcjfafhbohkhlaaGreat.M Go.Proofs.YtcjfafhbohkhlaaGreat.PAll Go.Proofs.YtcjfafhbohkhlaaGreatW.PrintWords
set_option linter.unusedVariables false
set_option linter.unusedSimpArgs false
theorem rhart_info : (Tryz.prog.info? 36).map (·.size) = some 36 := by kernel_rfl
set_option maxHeartbeats 4000000 in
set_option maxRecDepth 100000 in
theorem r_reg (h : HartS) (r : Nat) (W : World) (hr : r < 32) (hk : h.Ok) : Calls Tryz.prog 33 #[.agg h.cells, .int .i64 (r : Int)] W fun e w' => e = .returned (.int .u64 ((h.set 0 0).reg r)) ∧ Below W.heap.size W w' := by
  have c := ((Blk.new W h.cells 36).cell (1 + r)).trans (HartS.cx hk r hr)
  have hd := Lib.hid ((Below.refl W.heap.size W).alloc (Nat.le_refl _) (.cells h.cells 36))
  have k1 : (r : Int) < 32 := by omega
  have k0 : (0 : Int) ≤ (r : Int) := by omega
  by_cases h0 : r = 0
  · subst h0
    clear c
    have e : (h.set 0 0).reg ((0 : Nat) : Int) = 0 := by
      have l := hk.1
      simp [HartS.set, HartS.reg, List.getD_eq_getElem?_getD, l]
    rw [e]
    clear hk e
    go_enter Tryz.func33, Tryz.ntmps33
    go_wp2_with fail
    go_ret
    exact ⟨rfl, hd.out⟩
  · have e : (h.set 0 0).reg (r : Int) = h.reg r := by
      simp only [HartS.set, HartS.reg, List.getD_eq_getElem?_getD, Int.toNat_natCast]
      rw [List.getElem?_set_ne (by show (0 : Nat) ≠ r; omega)]
    rw [e]
    have d0 : ((r : Int) == 0) = false := by simp; omega
    clear hk e h0
    generalize h.reg (r : Int) = v at *
    go_enter Tryz.func33, Tryz.ntmps33
    go_wp2_with fail
    go_ret
    exact ⟨rfl, hd.out⟩
theorem ins_info : (Tryz.prog.info? 50).map (·.size) = some 7 := by kernel_rfl
/-- In the midst of the reference's touch: its hart, the instruction, the hart that it tells, the memory. -/
structure RT (w Z : World) (g q : Nat) (o : HartS) (bs : List Int) (ic : Array Value) : Prop where
  k : o.Ok
  b1 : Blk Z w.heap.size o.cells 36
  b2 : Blk Z (w.heap.size + 1) ic 50
  b3 : Blk Z (w.heap.size + 1 + 1) H0.cells 36
  m : RefAt Z g q bs
  f : w.grownBy Z (some q)
  hq : q < w.heap.size
  hg : g < w.heap.size
def RTPost (w : World) (g q : Nat) (t : Int × Int × HartS × List Int) (e : Ending) (w' : World) : Prop :=
  ∃ v o, e = .returned (.tuple #[.int .u64 v, .agg o.cells, .int .i64 t.2.1]) ∧ HartS.Ok o ∧ U64 v ∧ (t.2.1 = 0 → v = t.1 ∧ o = t.2.2.1) ∧ RefAt w' g q t.2.2.2 ∧ w.grownBy w' (some q)
theorem results_tct {P : Program} {fn : Func} {p q r : Tmp} {ty : TypeId} (h : fn.results = #[.tmp p, .cell q ty, .tmp r]) (tmps : Array Value) (w : World) (g : Nat) (t : TypeId) (cs : Array Value) (d : TypeDesc)
    (hq : tmps.getD q undef = .pointer (some ⟨g, 0, none⟩)) (hg : Blk w g cs t)
    (hu : P.underlying ty = some d) (hd : (match d with | .struct _ | .array _ _ => true | _ => false) = true) (hi : (P.info? ty).map (·.size) = some cs.size) :
    (results fn tmps).run P w = .ok (.tuple #[tmps.getD p undef, .agg cs, tmps.getD r undef]) w := by
  have hq' : tmps[q]?.getD undef = .pointer (some ⟨g, 0, none⟩) := by simpa using hq
  simp [results, h, hq', asAddr, run_loadVar_row w g t ty cs (0, 0) d hg hu hd hi]
theorem ref_far {w : World} {g b p i : Nat} {bs : List Int} (h : RefAt w g b bs) (h1 : g ≠ p) (h2 : b ≠ p) {u : Value} : RefAt (w.setCell ⟨p, i, none⟩ u) g b bs := ⟨h.1.far (p := ⟨p, i, none⟩) h1 u, h.2.1.far (p := ⟨p, i, none⟩) h2 u, h.2.2⟩
section
variable {w Z Z' : World} {g q : Nat} {o : HartS} {bs : List Int} {ic : Array Value}
theorem RT.lt (H : RT w Z g q o bs ic) : w.heap.size + 1 + 1 < Z.heap.size := H.b3.lt
theorem RT.below (H : RT w Z g q o bs ic) (d : Below Z.heap.size Z Z') : RT w Z' g q o bs ic := ⟨H.k, H.b1.below d, H.b2.below d, H.b3.below d, H.m.below d, grown_below H.f d, H.hq, H.hg⟩
theorem RT.set (H : RT w Z g q o bs ic) (i : Nat) (u : Value) (o' : HartS) (k : o'.Ok) (e : o.cells.setIfInBounds i u = o'.cells) : RT w (Z.setCell ⟨w.heap.size, i, none⟩ u) g q o' bs ic :=
  ⟨k, e ▸ H.b1.set i u, H.b2.far (p := ⟨w.heap.size, i, none⟩) (by show _ ≠ w.heap.size; omega) u, H.b3.far (p := ⟨w.heap.size, i, none⟩) (by show _ ≠ w.heap.size; omega) u, ref_far H.m (by have := H.hg; omega) (by have := H.hq; omega),
    ⟨H.f.os, H.f.tape, H.f.output, by rw [size_setCell]; exact H.f.size, fun k hk hne => (Below.heap_setCell Z ⟨w.heap.size, i, none⟩ u k (by show k ≠ w.heap.size; omega)).trans (H.f.block k hk hne)⟩, H.hq, H.hg⟩
theorem RT.mem {bs' : List Int} (H : RT w Z g q o bs ic) (t : Z.grownBy Z' (some q)) (m : RefAt Z' g q bs') : RT w Z' g q o bs' ic :=
  have l := H.lt
  have hq := H.hq
  have far : ∀ {b : Nat} {cs : Array Value} {T : Nat}, Blk Z b cs T → w.heap.size ≤ b → Blk Z' b cs T := fun B hb => (t.block _ B.lt (fun e => by injection e with e; omega)).trans B
  ⟨H.k, far H.b1 (Nat.le_refl _), far H.b2 (by omega), far H.b3 (by omega), m, ⟨t.os.trans H.f.os, t.tape.trans H.f.tape, t.output.trans H.f.output, Nat.le_trans H.f.size t.size, fun k hk hne => (t.block k (Nat.lt_of_lt_of_le hk H.f.size) hne).trans (H.f.block k hk hne)⟩, H.hq, H.hg⟩
theorem RT.back (H : RT w Z g q o bs ic) (t : Int × Int × HartS × List Int) (v : Int) (hv : U64 v) (ht : t.2.1 = 0 → v = t.1 ∧ o = t.2.2.1) (hbs : bs = t.2.2.2) (tmps : Array Value) (ds) (h8 : tmps.getD 8 undef = .int .u64 v) (h9 : tmps.getD 9 undef = .pointer (some ⟨w.heap.size + 1 + 1, 0, none⟩)) (h10 : tmps.getD 10 undef = .int .i64 t.2.1) (hd : ds = []) :
    bodyPost Tryz.prog Tryz.f35 (RTPost w g q t) .ret ⟨tmps, ds⟩ (Z.setRow (w.heap.size + 1 + 1) o.cells) := by
  subst hd
  have h1 := H.hq
  have h2 := H.hg
  have b := setRow_heap _ _ _ o.cells _ _ H.b3
  have m : RefAt (Z.setRow (w.heap.size + 1 + 1) o.cells) g q bs := ⟨(setRow_other _ _ _ _ (by omega)).trans H.m.1, (setRow_other _ _ _ _ (by omega)).trans H.m.2.1, H.m.2.2⟩
  have f : w.grownBy (Z.setRow (w.heap.size + 1 + 1) o.cells) (some q) := ⟨H.f.os, H.f.tape, H.f.output, by rw [size_setRow]; exact H.f.size, fun k hk hne => (setRow_other _ _ _ _ (by omega)).trans (H.f.block k hk hne)⟩
  refine bodyPost_ret (v := .tuple #[.int .u64 v, .agg o.cells, .int .i64 t.2.1]) ?_ rfl ⟨v, o, rfl, H.k, hv, ht, hbs ▸ m, f⟩
  rw [← h8, ← h10]
  exact results_tct (fn := Tryz.f35) (by kernel_rfl) tmps _ _ _ _ _ h9 b Tryz.underlying36 rfl (rhart_info.trans (congrArg some (HartS.size H.k).symm))
theorem RT.set3 (H : RT w Z g q o bs ic) (b : Bool) (v n : Int) (hv : U64 v) (hn : I64 n) : RT w (((Z.setCell ⟨w.heap.size, 33, none⟩ (.bool b)).setCell ⟨w.heap.size, 34, none⟩ (.int .u64 v)).setCell ⟨w.heap.size, 35, none⟩ (.int .i64 n)) g q { o with held := b, ad := v, sz := n } bs ic := by
  have k := H.k
  have h1 := H.set 33 (.bool b) ({ o with held := b } : HartS) ⟨k.1, k.2.1, k.2.2.1, k.2.2.2⟩ (HartS.s33 k.1 _)
  have h2 := h1.set 34 (.int .u64 v) ({ o with held := b, ad := v } : HartS) ⟨k.1, k.2.1, k.2.2.1, hv, k.2.2.2.2⟩ (HartS.s34 (h := { o with held := b }) k.1 _)
  exact h2.set 35 (.int .i64 n) _ (k.hold b v n hv hn) (HartS.s35 (h := { o with held := b, ad := v }) k.1 _)
theorem RT.many (H : RT w Z g q o bs ic) : ∀ V, (∃ pp : Regrown, V = Sort.grow (redrawn Z pp.d) pp.os) → RT w V g q o bs ic := fun V hV => by
  obtain ⟨pp, rfl⟩ := hV
  exact H.below (below_regrown Z pp.d pp.os)
theorem RT.si (H : RT w Z g q o bs ic) : (Tryz.prog.info? 36).map (·.size) = some o.cells.size := rhart_info.trans (congrArg some (HartS.size H.k).symm)
theorem rt_start {X Y : World} (M : RefAt w g q bs) (hk : o.Ok) (hX : w.alloc (.cells o.cells 36) = X) (hY : X.alloc (.cells ic 50) = Y) (hZ : Y.alloc (.cells H0.cells 36) = Z) : RT w Z g q o bs ic := by
  have s1 : X.heap.size = w.heap.size + 1 := by rw [← hX, World.size_alloc]
  have s2 : Y.heap.size = w.heap.size + 1 + 1 := by rw [← hY, World.size_alloc, s1]
  have d1 : Below w.heap.size w X := hX ▸ ((Below.refl w.heap.size w).alloc (Nat.le_refl _) _)
  have d2 : Below w.heap.size w Y := hY ▸ (d1.alloc d1.size _)
  have d3 : Below w.heap.size w Z := hZ ▸ (d2.alloc d2.size _)
  have b2 := Blk.new_eq hY
  rw [s1] at b2
  have b3 := Blk.new_eq hZ
  rw [s2] at b3
  exact ⟨hk, ((Blk.new_eq hX).alloc_eq hY).alloc_eq hZ, b2.alloc_eq hZ, b3, M.below d3, ⟨d3.os, d3.tape, d3.output, d3.size, fun k hk _ => d3.block k hk⟩, M.2.1.lt, M.1.lt⟩
end
set_option maxHeartbeats 16000000 in
set_option maxRecDepth 100000 in
theorem rtouch_any (op rd rs2 imm b : Int) (rs1 : Nat) (aq rl : Bool) (h : HartS) (g q : Nat) (bs : List Int) (w : World) (hk : h.Ok) (M : RefAt w g q bs) (l1 : rs1 < 32) (hb : U64 b) :
    Calls Tryz.prog 35 #[.agg h.cells, .pointer (some ⟨g, 0, none⟩), .agg (insC op rd rs1 rs2 imm aq rl), .int .u64 b] w (RTPost w g q (touchAt h bs op (addrOf op imm ((h.set 0 0).reg rs1)) (PAll.sizeOf op) b)) := by
  have HR := Lib.hid (fun W => r_reg h rs1 W l1 hk)
  have ha := (hk.set 0 0 (by decide)).reg rs1
  have HA := Lib.hid (fun W => r_addr op rd rs1 rs2 imm ((h.set 0 0).reg rs1) aq rl W)
  have hat := addr_range op imm _ ha
  have hsz := size_range op
  have hn : I64 (PAll.sizeOf op) := ⟨by omega, by omega⟩
  have HS := Lib.hid (fun W => r_size op W)
  generalize addrOf op imm ((h.set 0 0).reg rs1) = at_ at *
  generalize (h.set 0 0).reg (rs1 : Int) = a at *
  generalize hT : touchAt h bs op at_ (PAll.sizeOf op) b = t
  replace hT := Lib.hid hT
  have HM := Lib.hid M
  have HK := Lib.hid hk
  have z0 : U64 0 := by decide
  clear M hk hsz ha
  go_enter Tryz.func35, Tryz.ntmps35
  go_upto_region 1 with fail
  generalize hX : World.alloc w _ = X
  generalize hY : World.alloc X _ = Y
  generalize hZ : World.alloc Y _ = Z
  have H := Lib.hid (rt_start HM.out HK.out hX hY hZ)
  clear hX hY hZ HM
  have HB := Lib.hid H.out.many
  have k2 := H.out.b2.gcell
  refine wp_region_quiet_below (by kernel_rfl) (by kernel_rfl) ?_
  refine wpQuiet_load rfl 50 (.tmp 6) rfl ⟨w.heap.size + 1, 0, none⟩ rfl (insC op rd rs1 rs2 imm aq rl) _ (fun V hV => (HB.out V hV).b2.whole) Tryz.underlying50 rfl ins_info ?_
  refine wpQuiet_load rfl 36 (.tmp 4) rfl ⟨w.heap.size, 0, none⟩ rfl h.cells _ (fun V hV => (HB.out V hV).b1.whole) Tryz.underlying36 rfl (rhart_info.trans (congrArg some (HartS.size HK.out).symm)) ?_
  try simp only [Act.put, List.setIfInBounds_toArray, List.set_cons_succ, List.set_cons_zero]
  go_big_quiet_step (fail)
  go_big_quiet_step (fail)
  go_big_quiet_step ((go_at_call 33; exact in_grow HR.out _ _))
  go_big_quiet_step ((go_at_call 63; exact in_grow HA.out _ _))
  go_big_quiet_step (fail)
  refine wpQuiet_nil ?_
  intro _ hw'
  obtain ⟨⟨dq, osq⟩, hw''⟩ := hw'
  subst hw''
  replace H := Lib.hid (HB.out _ ⟨⟨dq, osq⟩, rfl⟩)
  clear HB k2
  generalize Sort.grow (redrawn Z dq) osq = Y0 at *
  have f0 : Y0.cell? ⟨w.heap.size + 1, 0, none⟩ = some (.int .i64 op) := H.out.b2.cell 0
  go_wp2_with fail
  refine (HS.out _).mono ?_
  rintro e W1 ⟨rfl, hd⟩
  replace H := Lib.hid (H.out.below hd)
  clear hd f0 HS
  generalize hnn : PAll.sizeOf op = n at *
  have f0 : W1.cell? ⟨w.heap.size + 1, 0, none⟩ = some (.int .i64 op) := H.out.b2.cell 0
  have e := hT.out
  unfold touchAt at e
  clear hT
  by_cases hc : op = 67 ∨ op = 78
  · rw [if_pos hc] at e
    have hst := stored_range op 0 b z0 hb
    have HT := Lib.hid (fun W => r_stored op b W 0 z0 hb)
    generalize storedOf op 0 b = st at *
    have f33 := H.out.b1.frozen
    have c33 := (H.out.b1.cell 33).trans (HartS.c33 HK.out)
    have c34 := (H.out.b1.cell 34).trans (HartS.c34 HK.out)
    have c35 := (H.out.b1.cell 35).trans (HartS.c35 HK.out)
    by_cases ho : h.held = true ∧ h.ad = at_ ∧ h.sz = n
    · rw [if_pos ho] at e
      obtain ⟨e1, e2, e3⟩ := ho
      rw [e1] at c33
      rw [e2] at c34
      rw [e3] at c35
      by_cases hE : numE bs.length at_ n = 0
      · rw [if_pos hE] at e
        subst e
        rcases hc with rfl | rfl
        all_goals (
          go_wp2_with fail
          refine (HT.out _).mono ?_
          rintro e W2 ⟨rfl, hd⟩
          replace H := Lib.hid (H.out.below hd)
          clear hd f0 c33 c34 c35 f33
          go_wp2_with fail
          refine (StoreRef_any _ g q bs at_ n st H.out.m hat hn hst).mono ?_
          rintro e W3 ⟨rfl, hM, hG⟩
          replace H := Lib.hid (H.out.mem hG hM)
          clear hM hG
          rw [hE]
          have f33 := H.out.b1.frozen
          have c33 := (H.out.b1.cell 33).trans (HartS.c33 HK.out)
          have c34 := (H.out.b1.cell 34).trans (HartS.c34 HK.out)
          have c35 := (H.out.b1.cell 35).trans (HartS.c35 HK.out)
          go_wp2_with fail
          replace H := Lib.hid (H.out.set3 false 0 0 z0 (by decide))
          clear f33 c33 c34 c35
          have HB := Lib.hid H.out.many
          generalize World.setCell (World.setCell (World.setCell W3 _ _) _ _) _ _ = V at *
          refine wp_region_below_tail 2 (by kernel_rfl) (by kernel_rfl) ?_
          simp only [List.take_succ_cons, List.take_zero, List.drop_succ_cons, List.drop_zero]
          refine wpQuiet_load rfl 36 (.tmp 4) rfl ⟨w.heap.size, 0, none⟩ rfl _ _ (fun V hV => (HB.out V hV).b1.whole) Tryz.underlying36 rfl H.out.si ?_
          try simp only [List.getElem_toArray, List.getElem_cons_succ, List.getElem_cons_zero, Act.put, List.setIfInBounds_toArray, List.set_cons_succ, List.set_cons_zero]
          go_big_quiet_step (fail)
          refine wpQuiet_nil ?_
          intro _ hw'
          obtain ⟨⟨dq, osq⟩, hw''⟩ := hw'
          subst hw''
          replace H := Lib.hid (HB.out _ ⟨⟨dq, osq⟩, rfl⟩)
          generalize Sort.grow (redrawn _ dq) osq = Y1 at *
          clear HB
          go_wp2_with (first | refine wpList_store_row rfl 36 _ _ rfl (w.heap.size + 1 + 1) _ rfl rfl 36 _ H.out.b3 H.out.si (HartS.size H.out.k).symm (HartS.one _) ?_)
          exact H.out.back _ 0 (by decide) (fun _ => ⟨rfl, rfl⟩) rfl _ _ rfl rfl rfl rfl)
      · rw [if_neg hE] at e
        subst e
        have es : storeOf bs at_ n st = bs := by unfold storeOf; rw [if_neg hE]
        have d0 : (numE bs.length at_ n != 0) = true := by simpa using hE
        rcases hc with rfl | rfl
        all_goals (
          go_wp2_with fail
          refine (HT.out _).mono ?_
          rintro e W2 ⟨rfl, hd⟩
          replace H := Lib.hid (H.out.below hd)
          clear hd f0 c33 c34 c35 f33
          go_wp2_with fail
          refine (StoreRef_any _ g q bs at_ n st H.out.m hat hn hst).mono ?_
          rintro e W3 ⟨rfl, hM, hG⟩
          rw [es] at hM
          replace H := Lib.hid (H.out.mem hG hM)
          clear hM hG
          generalize numE bs.length at_ n = E at *
          go_wp2_with fail
          have HB := Lib.hid H.out.many
          refine wp_region_two [3] [0] [{ dst := some 63, op := Op.load 36 (Operand.tmp 4), type := 36, pos := "ref.go:43", after := #[{ on := 2, ground := Ground.gcOnly Departure.lateStores }], guard := none }] rfl (by kernel_rfl) (by decide) (by kernel_rfl) (by kernel_rfl) (by kernel_rfl) (by kernel_rfl) (fun _ _ _ _ _ h => h) ?_
          refine wpQuiet_load rfl 36 (.tmp 4) rfl ⟨w.heap.size, 0, none⟩ rfl _ _ (fun V hV => (HB.out V hV).b1.whole) Tryz.underlying36 rfl H.out.si ?_
          try simp only [List.getElem_toArray, List.getElem_cons_succ, List.getElem_cons_zero, Act.put, List.setIfInBounds_toArray, List.set_cons_succ, List.set_cons_zero]
          refine wpQuiet_nil ?_
          intro _ hw'
          obtain ⟨⟨dq, osq⟩, hw''⟩ := hw'
          subst hw''
          show wpAnyT Tryz.prog .any _ _ _ _ 4 _ _ _
          have bY := below_regrown W3 dq osq
          replace H := Lib.hid (HB.out _ ⟨⟨dq, osq⟩, rfl⟩)
          generalize Sort.grow (redrawn W3 dq) osq = Y1 at *
          clear HB
          refine wpAnyT_take (i := 1) (v := .int .i64 E) rfl (by kernel_rfl) (by kernel_rfl) (by kernel_rfl) (by decide) (fun _ _ _ h => h) (.inl ⟨rfl, fun V hV => ?hr2⟩) (fun _ => regrown_of_below bY) ?_
          case hr2 => go_simp
          refine wpAnyT_take (i := 2) (v := .int .u64 0) rfl (by kernel_rfl) (by kernel_rfl) (by kernel_rfl) (by decide) (fun _ _ _ h => h) (.inl ⟨rfl, fun V hV => ?hr3⟩) (fun _ => regrown_of_below bY) ?_
          case hr3 => go_simp
          try simp only [List.getElem_toArray, List.getElem_cons_succ, List.getElem_cons_zero, Act.put, List.setIfInBounds_toArray, List.set_cons_succ, List.set_cons_zero]
          refine wpAnyT_all (rs := [3]) (by kernel_rfl) (by simp) ?_
          intro kk hkk
          simp only [List.mem_singleton] at hkk
          subst hkk
          refine wpOp_store rfl rfl _ _ _ rfl (w.heap.size + 1 + 1) _ rfl rfl 36 _ H.out.b3 H.out.si (HartS.size H.out.k).symm (HartS.one _) ⟨fun e => Bool.noConfusion (show false = true from e), ?_⟩
          refine wpAnyT_take (i := 4) (v := .int .i64 E) rfl (by kernel_rfl) (by kernel_rfl) (by kernel_rfl) (by decide) (fun _ _ _ h => h) (.inl ⟨rfl, fun V hV => ?hr4⟩) (fun e => Bool.noConfusion (show false = true from e)) ?_
          case hr4 => go_simp
          refine wpAnyT_done (by kernel_rfl) ?_ _
          try simp only [List.getElem_toArray, List.getElem_cons_succ, List.getElem_cons_zero, Act.put, List.setIfInBounds_toArray, List.set_cons_succ, List.set_cons_zero]
          go_wp2_with fail
          exact H.out.back _ 0 z0 (fun h0 => absurd h0 hE) rfl _ _ rfl rfl rfl rfl)
    · rw [if_neg ho] at e
      subst e
      have cs : h.held = false ∨ h.held = true ∧ (h.ad == at_) = false ∨ h.held = true ∧ h.ad = at_ ∧ (h.sz == n) = false := by
        by_cases q1 : h.held = true
        · by_cases q2 : h.ad = at_
          · by_cases q3 : h.sz = n
            · exact absurd ⟨q1, q2, q3⟩ ho
            · exact .inr (.inr ⟨q1, q2, by simpa using q3⟩)
          · exact .inr (.inl ⟨q1, by simpa using q2⟩)
        · exact .inl (by simpa using q1)
      clear ho
      rcases hc with rfl | rfl
      all_goals (
        rcases cs with q1 | ⟨q1, q2⟩ | ⟨q1, q2, q3⟩
        all_goals (
          rw [q1] at c33
          try rw [q2] at c34
          go_wp2_with fail
          replace H := Lib.hid (H.out.set3 false 0 0 z0 (by decide))
          clear f33 c33 c34 c35
          have HB := Lib.hid H.out.many
          generalize World.setCell (World.setCell (World.setCell W1 _ _) _ _) _ _ = V at *
          refine wp_region_below_tail 2 (by kernel_rfl) (by kernel_rfl) ?_
          simp only [List.take_succ_cons, List.take_zero, List.drop_succ_cons, List.drop_zero]
          refine wpQuiet_load rfl 36 (.tmp 4) rfl ⟨w.heap.size, 0, none⟩ rfl _ _ (fun V hV => (HB.out V hV).b1.whole) Tryz.underlying36 rfl H.out.si ?_
          try simp only [List.getElem_toArray, List.getElem_cons_succ, List.getElem_cons_zero, Act.put, List.setIfInBounds_toArray, List.set_cons_succ, List.set_cons_zero]
          go_big_quiet_step (fail)
          refine wpQuiet_nil ?_
          intro _ hw'
          obtain ⟨⟨dq, osq⟩, hw''⟩ := hw'
          subst hw''
          replace H := Lib.hid (HB.out _ ⟨⟨dq, osq⟩, rfl⟩)
          generalize Sort.grow (redrawn _ dq) osq = Y1 at *
          clear HB
          go_wp2_with (first | refine wpList_store_row rfl 36 _ _ rfl (w.heap.size + 1 + 1) _ rfl rfl 36 _ H.out.b3 H.out.si (HartS.size H.out.k).symm (HartS.one _) ?_)
          exact H.out.back _ 1 (by decide) (fun _ => ⟨rfl, rfl⟩) rfl _ _ rfl rfl rfl rfl))
  · rw [if_neg hc] at e
    have d67 : (op == 67) = false := beq_eq_false_iff_ne.2 fun e => hc (.inl e)
    have d78 : (op == 78) = false := beq_eq_false_iff_ne.2 fun e => hc (.inr e)
    have e66 : (op = 66 ∨ op = 77) → storesB op = false := by rintro (rfl | rfl) <;> rfl
    have e67 : (op = 66 ∨ op = 77) → loadsB op = true := by rintro (rfl | rfl) <;> rfl
    clear hc
    have HLo := Lib.hid (fun W => r_loads op W)
    have HSt := Lib.hid (fun W => r_stores op W)
    by_cases hl : loadsB op = true
    · rw [if_pos hl] at e
      rw [hl] at HLo
      have hraw := load_range bs at_ n H.out.m.2.2.1
      have HLd := Lib.hid (fun (W : World) (M : RefAt W g q bs) => LoadRef_any W g q bs at_ n M hat hn)
      have HV := Lib.hid (fun W => r_loaded op W (loadOf bs at_ n) hraw)
      have hv := loaded_range op (loadOf bs at_ n) hraw
      have HT := Lib.hid (fun W => r_stored op b W (loadOf bs at_ n) hraw hb)
      have hst := stored_range op (loadOf bs at_ n) b hraw hb
      generalize storedOf op (loadOf bs at_ n) b = st at *
      generalize loadedOf op (loadOf bs at_ n) = v at *
      generalize loadOf bs at_ n = raw at *
      by_cases hE : numE bs.length at_ n = 0
      · rw [if_pos hE] at e
        rw [hE] at HLd
        by_cases hs : storesB op = true
        · have n6 : ¬ (op = 66 ∨ op = 77) := fun e => by rw [e66 e] at hs; cases hs
          rw [if_neg n6, if_pos hs] at e
          rw [hs] at HSt
          subst e
          have d66 : (op == 66) = false := beq_eq_false_iff_ne.2 fun e => n6 (.inl e)
          have d77 : (op == 77) = false := beq_eq_false_iff_ne.2 fun e => n6 (.inr e)
          clear n6 e66 e67 hl hs
          go_wp2_with fail
          refine (HLo.out _).mono ?_
          rintro e W2 ⟨rfl, hd⟩
          replace H := Lib.hid (H.out.below hd)
          clear hd f0
          have f0 : W2.cell? ⟨w.heap.size + 1, 0, none⟩ = some (.int .i64 op) := H.out.b2.cell 0
          go_wp2_with fail
          refine (HLd.out _ H.out.m).mono ?_
          rintro e W ⟨rfl, rfl⟩
          go_wp2_with fail
          refine (HSt.out _).mono ?_
          rintro e W3 ⟨rfl, hd⟩
          replace H := Lib.hid (H.out.below hd)
          clear hd f0
          have f0 : W3.cell? ⟨w.heap.size + 1, 0, none⟩ = some (.int .i64 op) := H.out.b2.cell 0
          go_wp2_with fail
          refine (HT.out _).mono ?_
          rintro e W4 ⟨rfl, hd⟩
          replace H := Lib.hid (H.out.below hd)
          clear hd f0
          have f0 : W4.cell? ⟨w.heap.size + 1, 0, none⟩ = some (.int .i64 op) := H.out.b2.cell 0
          go_wp2_with fail
          refine (StoreRef_any _ g q bs at_ n st H.out.m hat hn hst).mono ?_
          rintro e W5 ⟨rfl, hM, hG⟩
          replace H := Lib.hid (H.out.mem hG hM)
          clear hM hG f0
          rw [hE]
          have f0 : W5.cell? ⟨w.heap.size + 1, 0, none⟩ = some (.int .i64 op) := H.out.b2.cell 0
          go_wp2_with fail
          clear f0
          have HB := Lib.hid H.out.many
          have k2 := H.out.b2.gcell
          refine wp_region_below_tail 6 (by kernel_rfl) (by kernel_rfl) ?_
          simp only [List.take_succ_cons, List.take_zero, List.drop_succ_cons, List.drop_zero]
          go_big_quiet_step (fail)
          go_big_quiet_step (fail)
          go_big_quiet_step (fail)
          go_big_quiet_step ((go_at_call 67; exact in_grow HV.out _ _))
          refine wpQuiet_load rfl 36 (.tmp 4) rfl ⟨w.heap.size, 0, none⟩ rfl _ _ (fun V hV => (HB.out V hV).b1.whole) Tryz.underlying36 rfl H.out.si ?_
          try simp only [List.getElem_toArray, List.getElem_cons_succ, List.getElem_cons_zero, Act.put, List.setIfInBounds_toArray, List.set_cons_succ, List.set_cons_zero]
          go_big_quiet_step (fail)
          refine wpQuiet_nil ?_
          intro _ hw'
          obtain ⟨⟨dq, osq⟩, hw''⟩ := hw'
          subst hw''
          replace H := Lib.hid (HB.out _ ⟨⟨dq, osq⟩, rfl⟩)
          generalize Sort.grow (redrawn W5 dq) osq = Y1 at *
          clear HB k2
          go_wp2_with (first | refine wpList_store_row rfl 36 _ _ rfl (w.heap.size + 1 + 1) _ rfl rfl 36 _ H.out.b3 H.out.si (HartS.size H.out.k).symm (HartS.one _) ?_)
          exact H.out.back _ _ hv (fun _ => ⟨rfl, rfl⟩) rfl _ _ rfl rfl rfl rfl
        · have hs' : storesB op = false := by simpa using hs
          rw [if_neg hs] at e
          rw [hs'] at HSt
          by_cases n6 : op = 66 ∨ op = 77
          · rw [if_pos n6] at e
            subst e
            clear e66 e67 hl hs hs'
            rcases n6 with rfl | rfl
            all_goals (
              go_wp2_with fail
              refine (HLo.out _).mono ?_
              rintro e W2 ⟨rfl, hd⟩
              replace H := Lib.hid (H.out.below hd)
              clear hd f0
              have f0 : W2.cell? ⟨w.heap.size + 1, 0, none⟩ = some (.int .i64 _) := H.out.b2.cell 0
              go_wp2_with fail
              refine (HLd.out _ H.out.m).mono ?_
              rintro e W ⟨rfl, rfl⟩
              go_wp2_with fail
              refine (HSt.out _).mono ?_
              rintro e W3 ⟨rfl, hd⟩
              replace H := Lib.hid (H.out.below hd)
              clear hd f0
              have f0 := H.out.b2.cell 0
              have f33 := H.out.b1.frozen
              have c33 := (H.out.b1.cell 33).trans (HartS.c33 HK.out)
              have c34 := (H.out.b1.cell 34).trans (HartS.c34 HK.out)
              have c35 := (H.out.b1.cell 35).trans (HartS.c35 HK.out)
              go_wp2_with fail
              replace H := Lib.hid (H.out.set3 true at_ n hat hn)
              clear f33 c33 c34 c35 f0
              generalize World.setCell (World.setCell (World.setCell W3 _ _) _ _) _ _ = V at *
              have HB := Lib.hid H.out.many
              have k2 := H.out.b2.gcell
              refine wp_region_below_tail 6 (by kernel_rfl) (by kernel_rfl) ?_
              simp only [List.take_succ_cons, List.take_zero, List.drop_succ_cons, List.drop_zero]
              go_big_quiet_step (fail)
              go_big_quiet_step (fail)
              go_big_quiet_step (fail)
              go_big_quiet_step ((go_at_call 67; exact in_grow HV.out _ _))
              refine wpQuiet_load rfl 36 (.tmp 4) rfl ⟨w.heap.size, 0, none⟩ rfl _ _ (fun V hV => (HB.out V hV).b1.whole) Tryz.underlying36 rfl H.out.si ?_
              try simp only [List.getElem_toArray, List.getElem_cons_succ, List.getElem_cons_zero, Act.put, List.setIfInBounds_toArray, List.set_cons_succ, List.set_cons_zero]
              go_big_quiet_step (fail)
              refine wpQuiet_nil ?_
              intro _ hw'
              obtain ⟨⟨dq, osq⟩, hw''⟩ := hw'
              subst hw''
              replace H := Lib.hid (HB.out _ ⟨⟨dq, osq⟩, rfl⟩)
              generalize Sort.grow (redrawn V dq) osq = Y1 at *
              clear HB k2
              go_wp2_with (first | refine wpList_store_row rfl 36 _ _ rfl (w.heap.size + 1 + 1) _ rfl rfl 36 _ H.out.b3 H.out.si (HartS.size H.out.k).symm (HartS.one _) ?_)
              exact H.out.back _ _ hv (fun _ => ⟨rfl, rfl⟩) rfl _ _ rfl rfl rfl rfl)
          · rw [if_neg n6] at e
            subst e
            have d66 : (op == 66) = false := beq_eq_false_iff_ne.2 fun e => n6 (.inl e)
            have d77 : (op == 77) = false := beq_eq_false_iff_ne.2 fun e => n6 (.inr e)
            clear n6 e66 e67 hl hs hs'
            go_wp2_with fail
            refine (HLo.out _).mono ?_
            rintro e W2 ⟨rfl, hd⟩
            replace H := Lib.hid (H.out.below hd)
            clear hd f0
            have f0 : W2.cell? ⟨w.heap.size + 1, 0, none⟩ = some (.int .i64 op) := H.out.b2.cell 0
            go_wp2_with fail
            refine (HLd.out _ H.out.m).mono ?_
            rintro e W ⟨rfl, rfl⟩
            go_wp2_with fail
            refine (HSt.out _).mono ?_
            rintro e W3 ⟨rfl, hd⟩
            replace H := Lib.hid (H.out.below hd)
            clear hd f0
            have f0 : W3.cell? ⟨w.heap.size + 1, 0, none⟩ = some (.int .i64 op) := H.out.b2.cell 0
            go_wp2_with fail
            clear f0
            have HB := Lib.hid H.out.many
            have k2 := H.out.b2.gcell
            refine wp_region_below_tail 6 (by kernel_rfl) (by kernel_rfl) ?_
            simp only [List.take_succ_cons, List.take_zero, List.drop_succ_cons, List.drop_zero]
            go_big_quiet_step (fail)
            go_big_quiet_step (fail)
            go_big_quiet_step (fail)
            go_big_quiet_step ((go_at_call 67; exact in_grow HV.out _ _))
            refine wpQuiet_load rfl 36 (.tmp 4) rfl ⟨w.heap.size, 0, none⟩ rfl _ _ (fun V hV => (HB.out V hV).b1.whole) Tryz.underlying36 rfl H.out.si ?_
            try simp only [List.getElem_toArray, List.getElem_cons_succ, List.getElem_cons_zero, Act.put, List.setIfInBounds_toArray, List.set_cons_succ, List.set_cons_zero]
            go_big_quiet_step (fail)
            refine wpQuiet_nil ?_
            intro _ hw'
            obtain ⟨⟨dq, osq⟩, hw''⟩ := hw'
            subst hw''
            replace H := Lib.hid (HB.out _ ⟨⟨dq, osq⟩, rfl⟩)
            generalize Sort.grow (redrawn W3 dq) osq = Y1 at *
            clear HB k2
            go_wp2_with (first | refine wpList_store_row rfl 36 _ _ rfl (w.heap.size + 1 + 1) _ rfl rfl 36 _ H.out.b3 H.out.si (HartS.size H.out.k).symm (HartS.one _) ?_)
            exact H.out.back _ _ hv (fun _ => ⟨rfl, rfl⟩) rfl _ _ rfl rfl rfl rfl
      · rw [if_neg hE] at e
        subst e
        have d0 : (numE bs.length at_ n != 0) = true := by simpa using hE
        clear e66 e67 hl
        generalize numE bs.length at_ n = E at *
        go_wp2_with fail
        refine (HLo.out _).mono ?_
        rintro e W2 ⟨rfl, hd⟩
        replace H := Lib.hid (H.out.below hd)
        clear hd f0
        have f0 : W2.cell? ⟨w.heap.size + 1, 0, none⟩ = some (.int .i64 op) := H.out.b2.cell 0
        go_wp2_with fail
        refine (HLd.out _ H.out.m).mono ?_
        rintro e W ⟨rfl, rfl⟩
        clear f0
        go_wp2_with fail
        have HB := Lib.hid H.out.many
        refine wp_region_two [3] [0] [{ dst := some 83, op := Op.load 36 (Operand.tmp 4), type := 36, pos := "ref.go:58", after := #[{ on := 2, ground := Ground.gcOnly Departure.lateStores }], guard := none }] rfl (by kernel_rfl) (by decide) (by kernel_rfl) (by kernel_rfl) (by kernel_rfl) (by kernel_rfl) (fun _ _ _ _ _ h => h) ?_
        refine wpQuiet_load rfl 36 (.tmp 4) rfl ⟨w.heap.size, 0, none⟩ rfl _ _ (fun V hV => (HB.out V hV).b1.whole) Tryz.underlying36 rfl H.out.si ?_
        try simp only [List.getElem_toArray, List.getElem_cons_succ, List.getElem_cons_zero, Act.put, List.setIfInBounds_toArray, List.set_cons_succ, List.set_cons_zero]
        refine wpQuiet_nil ?_
        intro _ hw'
        obtain ⟨⟨dq, osq⟩, hw''⟩ := hw'
        subst hw''
        show wpAnyT Tryz.prog .any _ _ _ _ 4 _ _ _
        have bY := below_regrown W2 dq osq
        replace H := Lib.hid (HB.out _ ⟨⟨dq, osq⟩, rfl⟩)
        generalize Sort.grow (redrawn W2 dq) osq = Y1 at *
        clear HB
        refine wpAnyT_take (i := 1) (v := .int .i64 E) rfl (by kernel_rfl) (by kernel_rfl) (by kernel_rfl) (by decide) (fun _ _ _ h => h) (.inl ⟨rfl, fun V hV => ?hr2⟩) (fun _ => regrown_of_below bY) ?_
        case hr2 => go_simp
        refine wpAnyT_take (i := 2) (v := .int .u64 0) rfl (by kernel_rfl) (by kernel_rfl) (by kernel_rfl) (by decide) (fun _ _ _ h => h) (.inl ⟨rfl, fun V hV => ?hr3⟩) (fun _ => regrown_of_below bY) ?_
        case hr3 => go_simp
        try simp only [List.getElem_toArray, List.getElem_cons_succ, List.getElem_cons_zero, Act.put, List.setIfInBounds_toArray, List.set_cons_succ, List.set_cons_zero]
        refine wpAnyT_all (rs := [3]) (by kernel_rfl) (by simp) ?_
        intro kk hkk
        simp only [List.mem_singleton] at hkk
        subst hkk
        refine wpOp_store rfl rfl _ _ _ rfl (w.heap.size + 1 + 1) _ rfl rfl 36 _ H.out.b3 H.out.si (HartS.size H.out.k).symm (HartS.one _) ⟨fun e => Bool.noConfusion (show false = true from e), ?_⟩
        refine wpAnyT_take (i := 4) (v := .int .i64 E) rfl (by kernel_rfl) (by kernel_rfl) (by kernel_rfl) (by decide) (fun _ _ _ h => h) (.inl ⟨rfl, fun V hV => ?hr4⟩) (fun e => Bool.noConfusion (show false = true from e)) ?_
        case hr4 => go_simp
        refine wpAnyT_done (by kernel_rfl) ?_ _
        try simp only [List.getElem_toArray, List.getElem_cons_succ, List.getElem_cons_zero, Act.put, List.setIfInBounds_toArray, List.set_cons_succ, List.set_cons_zero]
        go_wp2_with fail
        exact H.out.back _ 0 z0 (fun h0 => absurd h0 hE) rfl _ _ rfl rfl rfl rfl
    · have hl' : loadsB op = false := by simpa using hl
      rw [if_neg hl] at e
      rw [hl'] at HLo
      have n6 : ¬ (op = 66 ∨ op = 77) := fun e => hl (e67 e)
      have d66 : (op == 66) = false := beq_eq_false_iff_ne.2 fun e => n6 (.inl e)
      have d77 : (op == 77) = false := beq_eq_false_iff_ne.2 fun e => n6 (.inr e)
      have HV := Lib.hid (fun W => r_loaded op W 0 z0)
      have hv := loaded_range op 0 z0
      have HT := Lib.hid (fun W => r_stored op b W 0 z0 hb)
      have hst := stored_range op 0 b z0 hb
      generalize storedOf op 0 b = st at *
      generalize loadedOf op 0 = v at *
      clear n6 e66 e67 hl hl'
      by_cases hs : storesB op = true
      · rw [if_pos hs] at e
        rw [hs] at HSt
        clear hs
        by_cases hE : numE bs.length at_ n = 0
        · rw [hE] at e
          subst e
          go_wp2_with fail
          refine (HLo.out _).mono ?_
          rintro e W2 ⟨rfl, hd⟩
          replace H := Lib.hid (H.out.below hd)
          clear hd f0
          have f0 : W2.cell? ⟨w.heap.size + 1, 0, none⟩ = some (.int .i64 op) := H.out.b2.cell 0
          go_wp2_with fail
          refine (HSt.out _).mono ?_
          rintro e W3 ⟨rfl, hd⟩
          replace H := Lib.hid (H.out.below hd)
          clear hd f0
          have f0 : W3.cell? ⟨w.heap.size + 1, 0, none⟩ = some (.int .i64 op) := H.out.b2.cell 0
          go_wp2_with fail
          refine (HT.out _).mono ?_
          rintro e W4 ⟨rfl, hd⟩
          replace H := Lib.hid (H.out.below hd)
          clear hd f0
          have f0 : W4.cell? ⟨w.heap.size + 1, 0, none⟩ = some (.int .i64 op) := H.out.b2.cell 0
          go_wp2_with fail
          refine (StoreRef_any _ g q bs at_ n st H.out.m hat hn hst).mono ?_
          rintro e W5 ⟨rfl, hM, hG⟩
          replace H := Lib.hid (H.out.mem hG hM)
          clear hM hG f0
          rw [hE]
          have f0 : W5.cell? ⟨w.heap.size + 1, 0, none⟩ = some (.int .i64 op) := H.out.b2.cell 0
          go_wp2_with fail
          clear f0
          have HB := Lib.hid H.out.many
          have k2 := H.out.b2.gcell
          refine wp_region_below_tail 6 (by kernel_rfl) (by kernel_rfl) ?_
          simp only [List.take_succ_cons, List.take_zero, List.drop_succ_cons, List.drop_zero]
          go_big_quiet_step (fail)
          go_big_quiet_step (fail)
          go_big_quiet_step (fail)
          go_big_quiet_step ((go_at_call 67; exact in_grow HV.out _ _))
          refine wpQuiet_load rfl 36 (.tmp 4) rfl ⟨w.heap.size, 0, none⟩ rfl _ _ (fun V hV => (HB.out V hV).b1.whole) Tryz.underlying36 rfl H.out.si ?_
          try simp only [List.getElem_toArray, List.getElem_cons_succ, List.getElem_cons_zero, Act.put, List.setIfInBounds_toArray, List.set_cons_succ, List.set_cons_zero]
          go_big_quiet_step (fail)
          refine wpQuiet_nil ?_
          intro _ hw'
          obtain ⟨⟨dq, osq⟩, hw''⟩ := hw'
          subst hw''
          replace H := Lib.hid (HB.out _ ⟨⟨dq, osq⟩, rfl⟩)
          generalize Sort.grow (redrawn W5 dq) osq = Y1 at *
          clear HB k2
          go_wp2_with (first | refine wpList_store_row rfl 36 _ _ rfl (w.heap.size + 1 + 1) _ rfl rfl 36 _ H.out.b3 H.out.si (HartS.size H.out.k).symm (HartS.one _) ?_)
          exact H.out.back _ _ hv (fun _ => ⟨rfl, rfl⟩) rfl _ _ rfl rfl rfl rfl
        · have es : storeOf bs at_ n st = bs := by unfold storeOf; rw [if_neg hE]
          have d0 : (numE bs.length at_ n != 0) = true := by simpa using hE
          rw [es] at e
          subst e
          go_wp2_with fail
          refine (HLo.out _).mono ?_
          rintro e W2 ⟨rfl, hd⟩
          replace H := Lib.hid (H.out.below hd)
          clear hd f0
          have f0 : W2.cell? ⟨w.heap.size + 1, 0, none⟩ = some (.int .i64 op) := H.out.b2.cell 0
          go_wp2_with fail
          refine (HSt.out _).mono ?_
          rintro e W3 ⟨rfl, hd⟩
          replace H := Lib.hid (H.out.below hd)
          clear hd f0
          have f0 : W3.cell? ⟨w.heap.size + 1, 0, none⟩ = some (.int .i64 op) := H.out.b2.cell 0
          go_wp2_with fail
          refine (HT.out _).mono ?_
          rintro e W4 ⟨rfl, hd⟩
          replace H := Lib.hid (H.out.below hd)
          clear hd f0
          go_wp2_with fail
          refine (StoreRef_any _ g q bs at_ n st H.out.m hat hn hst).mono ?_
          rintro e W5 ⟨rfl, hM, hG⟩
          rw [es] at hM
          replace H := Lib.hid (H.out.mem hG hM)
          clear hM hG
          generalize numE bs.length at_ n = E at *
          go_wp2_with fail
          have HB := Lib.hid H.out.many
          refine wp_region_two [3] [0] [{ dst := some 100, op := Op.load 36 (Operand.tmp 4), type := 36, pos := "ref.go:65", after := #[{ on := 2, ground := Ground.gcOnly Departure.lateStores }], guard := none }] rfl (by kernel_rfl) (by decide) (by kernel_rfl) (by kernel_rfl) (by kernel_rfl) (by kernel_rfl) (fun _ _ _ _ _ h => h) ?_
          refine wpQuiet_load rfl 36 (.tmp 4) rfl ⟨w.heap.size, 0, none⟩ rfl _ _ (fun V hV => (HB.out V hV).b1.whole) Tryz.underlying36 rfl H.out.si ?_
          try simp only [List.getElem_toArray, List.getElem_cons_succ, List.getElem_cons_zero, Act.put, List.setIfInBounds_toArray, List.set_cons_succ, List.set_cons_zero]
          refine wpQuiet_nil ?_
          intro _ hw'
          obtain ⟨⟨dq, osq⟩, hw''⟩ := hw'
          subst hw''
          show wpAnyT Tryz.prog .any _ _ _ _ 4 _ _ _
          have bY := below_regrown W5 dq osq
          replace H := Lib.hid (HB.out _ ⟨⟨dq, osq⟩, rfl⟩)
          generalize Sort.grow (redrawn W5 dq) osq = Y1 at *
          clear HB
          refine wpAnyT_take (i := 1) (v := .int .i64 E) rfl (by kernel_rfl) (by kernel_rfl) (by kernel_rfl) (by decide) (fun _ _ _ h => h) (.inl ⟨rfl, fun V hV => ?hr2⟩) (fun _ => regrown_of_below bY) ?_
          case hr2 => go_simp
          refine wpAnyT_take (i := 2) (v := .int .u64 0) rfl (by kernel_rfl) (by kernel_rfl) (by kernel_rfl) (by decide) (fun _ _ _ h => h) (.inl ⟨rfl, fun V hV => ?hr3⟩) (fun _ => regrown_of_below bY) ?_
          case hr3 => go_simp
          try simp only [List.getElem_toArray, List.getElem_cons_succ, List.getElem_cons_zero, Act.put, List.setIfInBounds_toArray, List.set_cons_succ, List.set_cons_zero]
          refine wpAnyT_all (rs := [3]) (by kernel_rfl) (by simp) ?_
          intro kk hkk
          simp only [List.mem_singleton] at hkk
          subst hkk
          refine wpOp_store rfl rfl _ _ _ rfl (w.heap.size + 1 + 1) _ rfl rfl 36 _ H.out.b3 H.out.si (HartS.size H.out.k).symm (HartS.one _) ⟨fun e => Bool.noConfusion (show false = true from e), ?_⟩
          refine wpAnyT_take (i := 4) (v := .int .i64 E) rfl (by kernel_rfl) (by kernel_rfl) (by kernel_rfl) (by decide) (fun _ _ _ h => h) (.inl ⟨rfl, fun V hV => ?hr4⟩) (fun e => Bool.noConfusion (show false = true from e)) ?_
          case hr4 => go_simp
          refine wpAnyT_done (by kernel_rfl) ?_ _
          try simp only [List.getElem_toArray, List.getElem_cons_succ, List.getElem_cons_zero, Act.put, List.setIfInBounds_toArray, List.set_cons_succ, List.set_cons_zero]
          go_wp2_with fail
          exact H.out.back _ 0 z0 (fun h0 => absurd h0 hE) rfl _ _ rfl rfl rfl rfl
      · have hs' : storesB op = false := by simpa using hs
        rw [if_neg hs] at e
        rw [hs'] at HSt
        subst e
        clear hs hs'
        go_wp2_with fail
        refine (HLo.out _).mono ?_
        rintro e W2 ⟨rfl, hd⟩
        replace H := Lib.hid (H.out.below hd)
        clear hd f0
        have f0 : W2.cell? ⟨w.heap.size + 1, 0, none⟩ = some (.int .i64 op) := H.out.b2.cell 0
        go_wp2_with fail
        refine (HSt.out _).mono ?_
        rintro e W3 ⟨rfl, hd⟩
        replace H := Lib.hid (H.out.below hd)
        clear hd f0
        have f0 : W3.cell? ⟨w.heap.size + 1, 0, none⟩ = some (.int .i64 op) := H.out.b2.cell 0
        go_wp2_with fail
        clear f0
        have HB := Lib.hid H.out.many
        have k2 := H.out.b2.gcell
        refine wp_region_below_tail 6 (by kernel_rfl) (by kernel_rfl) ?_
        simp only [List.take_succ_cons, List.take_zero, List.drop_succ_cons, List.drop_zero]
        go_big_quiet_step (fail)
        go_big_quiet_step (fail)
        go_big_quiet_step (fail)
        go_big_quiet_step ((go_at_call 67; exact in_grow HV.out _ _))
        refine wpQuiet_load rfl 36 (.tmp 4) rfl ⟨w.heap.size, 0, none⟩ rfl _ _ (fun V hV => (HB.out V hV).b1.whole) Tryz.underlying36 rfl H.out.si ?_
        try simp only [List.getElem_toArray, List.getElem_cons_succ, List.getElem_cons_zero, Act.put, List.setIfInBounds_toArray, List.set_cons_succ, List.set_cons_zero]
        go_big_quiet_step (fail)
        refine wpQuiet_nil ?_
        intro _ hw'
        obtain ⟨⟨dq, osq⟩, hw''⟩ := hw'
        subst hw''
        replace H := Lib.hid (HB.out _ ⟨⟨dq, osq⟩, rfl⟩)
        generalize Sort.grow (redrawn W3 dq) osq = Y1 at *
        clear HB k2
        go_wp2_with (first | refine wpList_store_row rfl 36 _ _ rfl (w.heap.size + 1 + 1) _ rfl rfl 36 _ H.out.b3 H.out.si (HartS.size H.out.k).symm (HartS.one _) ?_)
        exact H.out.back _ _ hv (fun _ => ⟨rfl, rfl⟩) rfl _ _ rfl rfl rfl rfl
end Go.Proofs.YtcjfafhbohkhlaaGreat.Hand
