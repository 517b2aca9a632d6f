/- DERIVED. DERIVED. The first rule that holds of two places. -/
import Derived.Test.YtdfapbfpmjbnhaaProg
import Derived.Test.YtdfapbfpmjbnhaaMBits
import Derived.Test.YtdfapbfpmjbnhaaMWalk
import Derived.Test.YtdfapbfpmjbnhaaMArg
import Derived.Test.YtdfapbfpmjbnhaaMRow
import Derived.Test.YtdfapbfpmjbnhaaMOpen
import Derived.Test.YtdfapbfpmjbnhaaMPart
import Derived.Test.YtdfapbfpmjbnhaaMGoMap
import Derived.Test.YtdfapbfpmjbnhaaHG
import Derived.Below
import Derived.Deep.Draws
import Derived.Deep.AppendLies
import Derived.Maps.AppendAt
import Derived.OwnWalk
import Derived.Laws.BytesArg
import Derived.Laws.MakeOwn
import Derived.Laws.OwnMore
import Derived.Deep.OwnRows
import Derived.Tactics
import Derived.Lib.ConvBytes
import Derived.Laws.Slices
import Derived.WalkKit
import Derived.KernelRfl
import Derived.RowKit3
import Derived.Deep.LoopGhost
import Derived.Deep.QuietTactic
import Derived.BigQuiet
import Derived.WideLaws
import Derived.Deep.DeepCutAuto
import Derived.Deep.CutBlock
import Derived.Deep.RegionHeld3
import Derived.Laws.Rows
import Derived.Lib.AppendStr
import Derived.ArgAppend
import Derived.Laws.IdiomCopy
import Derived.OrdersHeld
import Derived.Laws.BitsLemmas
import Derived.Laws.Bits64
import Derived.RowKit
import Derived.Outline
import Derived.Handy
import Derived.Lib.Hide
import Derived.Deep.Light
import Derived.Laws.CopyOwn
import Derived.Laws.AppendOwnNone
import Derived.RangeFuncNested
import Derived.RangeFuncBound
import Derived.RangeFuncCalls
import Derived.RangeFuncLeaves
import Derived.Shelf.Abstract
import Derived.Shelf.RegionOpen
import Derived.OwnWalkIn
import Derived.TacticsInMore
import Derived.LoopNIn
import Derived.LoopIn
import Derived.Maps.OwnIn
import Derived.Deep.WholeRow
namespace Go.Proofs.Ytdfapbfpmjbnhaa.Hand
open Go Go.RowKit Go.Proofs.Ytdfapbfpmjbnhaa.M
set_option linter.unusedVariables false
set_option linter.unusedSimpArgs false
attribute [local go_sem] Oper.semAt_some
/-- The first rule that holds of two places. -/
def ruleOf (l : List OpS) (i j : Int) : Int := (rulesOf l i j).headD 0
set_option maxRecDepth 100000 in
set_option maxHeartbeats 4000000 in
theorem Rule_none (s : OSl) (i j : Int) (w : World) (hS : s.At w) (hN : ¬ (0 ≤ i ∧ i < j ∧ j < s.n)) :
    Calls Try.prog 10 #[s.v, .int .i64 i, .int .i64 j] w fun e w' => e = (.returned (.int .i64 0)) ∧ Below w.heap.size w w' := by
  have hm := hS.m
  have HD := Lib.hid (Below.refl w.heap.size w)
  show Calls Try.prog 10 #[.slice s.a s.n s.c, .int .i64 i, .int .i64 j] w _
  generalize s.a = sa at *
  generalize s.n = sn at *
  generalize s.c = sc at *
  clear hS s
  by_cases h1 : i < 0
  · clear hN
    go_enter Try.func10, Try.ntmps10
    go_wp2_with fail
    go_ret
    exact ⟨rfl, HD.out⟩
  · by_cases h2 : j ≥ sn
    · clear hN
      go_enter Try.func10, Try.ntmps10
      go_wp2_with fail
      go_ret
      exact ⟨rfl, HD.out⟩
    · have h3 : i ≥ j := by omega
      clear hN
      go_enter Try.func10, Try.ntmps10
      go_wp2_with fail
      go_ret
      exact ⟨rfl, HD.out⟩
set_option maxRecDepth 100000 in
set_option maxHeartbeats 4000000 in
theorem Rule_some (s : OSl) (p q : Nat) (w : World) (hS : s.At w) (h1 : p < q) (h2 : q < s.n) (hc : s.n ≤ s.c) :
    Calls Try.prog 10 #[s.v, .int .i64 p, .int .i64 q] w fun e w' => e = .returned (.int .i64 (ruleOf s.l p q)) ∧ Below w.heap.size w w' := by
  have hm := hS.m
  have g1 : decide ((p : Int) < 0) = false := by simp
  have g2 : decide (s.n ≤ q) = false := by simp; omega
  have g3 : decide (q ≤ p) = false := by simp; omega
  have HD := Lib.hid (Below.refl w.heap.size w)
  obtain ⟨ad, e, h3, hp, h5, h6⟩ := hS.cell (k := p) (by omega)
  obtain ⟨ad', e', h3', hq, h5', h6'⟩ := hS.cell (k := q) (by omega)
  have : ad' = ad := by rw [e] at e'; injection e' with e'; exact e'.symm
  subst this
  clear e'
  have N := Lib.hid (rulesOf_at s.l p q h1 hq hp)
  have HS := Lib.hid hS
  have C1 := Lib.hid h5
  have E1 := Lib.hid h5
  have E2 := Lib.hid h5'
  have C2 := Lib.hid h5'
  have A1 := Lib.hid h6
  have A2 := Lib.hid h6'
  show Calls Try.prog 10 #[.slice s.a s.n s.c, .int .i64 p, .int .i64 q] w _
  rw [e]
  have T1 : Hid (∀ W, Calls Try.prog 16 #[.agg s.l[p].cells] W fun e w' => e = .returned (.bool (touchB s.l[p])) ∧ Below W.heap.size W w') := Lib.hid fun W => touches_any _ W
  have T2 : Hid (∀ W, Calls Try.prog 16 #[.agg s.l[q].cells] W fun e w' => e = .returned (.bool (touchB s.l[q])) ∧ Below W.heap.size W w') := Lib.hid fun W => touches_any _ W
  have e := Lib.hid e
  clear hS h5 h5' h6 h6' h3'
  have hl := Lib.hid HS.out.n
  have NR := Lib.hid (show ruleOf s.l p q = (rulesOf s.l p q).headD 0 from rfl)
  generalize ruleOf s.l p q = R0 at *
  generalize rulesOf s.l p q = R at *
  generalize s.l[p] = a at *
  generalize s.l[q] = b at *
  have HC : Hid (∀ W, Below w.heap.size w W → ∀ n : Int, 1 ≤ n → n ≤ 13 → Calls Try.prog 17 #[.agg (pairC a b ⟨some (ad'.add ((p + 1) * 17)), q - (p + 1), s.c - (p + 1), betweenOf s.l p q⟩), .int .i64 n] W fun e w' => e = .returned (.bool (holdsOf a b (betweenOf s.l p q) n)) ∧ Below W.heap.size W w') :=
    Lib.hid fun W dW n hn1 hn2 => holds_any a b ⟨some (ad'.add ((p + 1) * 17)), q - (p + 1), s.c - (p + 1), betweenOf s.l p q⟩ n W (A1.out.below dW) (A2.out.below dW) ((HS.out.sub e.out h1 h2).below dW) hn1 hn2
  have n1 : rulesAt s.l p q a b = if touchB a && touchB b then allRules.filter (holdsOf a b (betweenOf s.l p q)) else [] := rfl
  have N := Lib.hid (N.out.trans n1)
  clear n1
  have HF := Lib.hid (show allRules.filter (holdsOf a b (betweenOf s.l p q)) = [] ++ (allRules.drop 0).filter (holdsOf a b (betweenOf s.l p q)) from rfl)
  generalize allRules.filter (holdsOf a b (betweenOf s.l p q)) = F at *
  by_cases ha : touchB a = true
  · rw [ha] at T1
    by_cases hb : touchB b = true
    · rw [hb] at T2
      rw [ha, hb] at N
      go_enter Try.func10, Try.ntmps10
      go_wp2_with (first | (refine wpList_load_in rfl 29 _ rfl (ad'.add (p * 17)) rfl a.cells _ C1.out Try.underlying29 rfl op_info ?_) | (refine wpList_load_in rfl 29 _ rfl (ad'.add (q * 17)) rfl b.cells _ D2.out Try.underlying29 rfl op_info ?_) | (go_at_call 16; refine (T1.out _).mono ?_; clear T1; rintro e W2 ⟨rfl, d2⟩; replace d2 := Lib.hid (HD.out.trans d2); have D2 := Lib.hid (C2.out.below (by rw [block_add]; exact h3) d2.out)) | (go_at_call 16; refine (T2.out _).mono ?_; clear T2; rintro e W3 ⟨rfl, d3⟩; replace d3 := Lib.hid (d2.out.trans (d3.mono d2.out.size))))
      clear g1 g2 g3 D2
      have HPI := Lib.hid (pair_info_of a b (⟨some (ad'.add ((p + 1) * 17)), q - (p + 1), s.c - (p + 1), betweenOf s.l p q⟩ : OSl))
      have hsc : q ≤ s.c := by omega
      have hse : ¬ s.c = p + 1 := by omega
      have hpq : p + 1 ≤ q := by omega
      have hpz : (0 : Int) ≤ p + 1 ∧ (p : Int) + 1 ≤ q := by omega
      have hpn : ¬ s.n ≤ p := by omega
      have hqn : ¬ s.n ≤ q := by omega
      refine wp_region_head 14 (by kernel_rfl) (by decide) (by kernel_rfl) (by kernel_rfl) (by kernel_rfl) (fun _ _ _ _ _ h => h) ?_
      simp only [List.take_succ_cons, List.take_zero]
      go_big_quiet_step (fail)
      go_big_quiet_step (fail)
      go_big_quiet_step (fail)
      refine wpQuiet_load rfl 29 _ rfl (ad'.add (p * 17)) rfl a.cells _ (fun V hV => by obtain ⟨pp, rfl⟩ := hV; exact (E1.out.below (by rw [block_add]; exact h3) d3.out).below (by rw [block_add]; exact Nat.lt_of_lt_of_le h3 d3.out.size) (below_regrown _ _ _)) Try.underlying29 rfl op_info ?_
      simp only [Act.put, List.setIfInBounds_toArray, List.set_cons_succ, List.set_cons_zero]
      go_big_quiet_step (fail)
      go_big_quiet_step (fail)
      go_big_quiet_step (fail)
      refine wpQuiet_load rfl 29 _ rfl (ad'.add (q * 17)) rfl b.cells _ (fun V hV => by obtain ⟨pp, rfl⟩ := hV; exact (E2.out.below (by rw [block_add]; exact h3) d3.out).below (by rw [block_add]; exact Nat.lt_of_lt_of_le h3 d3.out.size) (below_regrown _ _ _)) Try.underlying29 rfl op_info ?_
      simp only [Act.put, List.setIfInBounds_toArray, List.set_cons_succ, List.set_cons_zero]
      go_big_quiet_step (fail)
      go_big_quiet_step (fail)
      go_big_quiet_step (fail)
      go_big_quiet_step (fail)
      go_big_quiet_step (fail)
      refine wpQuiet_build rfl 42 _ rfl #[(0, .agg a.cells), (1, .agg b.cells), (2, (⟨some (ad'.add ((p + 1) * 17)), q - (p + 1), s.c - (p + 1), betweenOf s.l p q⟩ : OSl).v)] (by kernel_rfl) _ (run_build_pair _ _ _) ?_
      simp only [Act.put, List.setIfInBounds_toArray, List.set_cons_succ, List.set_cons_zero]
      refine wpQuiet_nil ?_
      intro _ hw'
      obtain ⟨⟨dq, osq⟩, hw''⟩ := hw'
      subst hw''
      show wpAnyH Try.prog .any _ _ _ 2 _ _ _
      have bG := below_regrown W3 dq osq
      generalize Sort.grow (redrawn W3 dq) osq = G at *
      refine wpAnyH_all (rs := [14]) (by kernel_rfl) (by simp) ?_
      intro i hi
      simp only [List.mem_singleton] at hi
      subst hi
      refine wpOp_alloc rfl rfl _ rfl _ (alloc_pair _) ⟨regrown_of_below (bG.alloc bG.size _), ?_⟩
      refine wpAnyH_all (rs := [15]) (by kernel_rfl) (by simp) ?_
      intro i hi
      simp only [List.mem_singleton] at hi
      subst hi
      refine wpOp_store rfl rfl _ _ _ rfl G.heap.size (pairC a b ⟨some (ad'.add ((p + 1) * 17)), q - (p + 1), s.c - (p + 1), betweenOf s.l p q⟩) rfl rfl 42 pairZero (Blk.new _ _ _) pair_info rfl (pair_one _ _ _) ⟨regrown_of_below (below_row (bG.alloc bG.size _) bG.size _), ?_⟩
      refine wpAnyH_done (by kernel_rfl) ?_ _
      simp only [List.getElem_toArray, List.getElem_cons_succ, List.getElem_cons_zero, Act.put, List.setIfInBounds_toArray, List.set_cons_succ, List.set_cons_zero]
      rw [World.setRow_alloc_new]
      generalize hV : World.alloc _ _ = V
      obtain ⟨bV, dV, sV⟩ := arg_box hV
      clear hV
      have HV := Lib.hid (d3.out.trans (bG.trans (dV.mono bG.size) |>.mono d3.out.size))
      have BV := Lib.hid bV
      clear bG dV bV d3 hsc hse hpq hpz hpn hqn
      have hx : Hid (pairC a b ⟨some (ad'.add ((p + 1) * 17)), q - (p + 1), s.c - (p + 1), betweenOf s.l p q⟩ = pairC a b ⟨some (ad'.add ((p + 1) * 17)), q - (p + 1), s.c - (p + 1), betweenOf s.l p q⟩) := Lib.hid rfl
      generalize pairC a b ⟨some (ad'.add ((p + 1) * 17)), q - (p + 1), s.c - (p + 1), betweenOf s.l p q⟩ = cs at *
      generalize holdsOf a b (betweenOf s.l p q) = P at *
      generalize G.heap.size = pb at *
      clear hx C1 E1 E2 C2 A1 A2 HS hl e ha hb
      go_wp2_with fail
      go_loopw [8] (fun i wr => ∃ k : Nat, k ≤ 13 ∧ i = .int .i64 ((k : Int) + 1) ∧ Hid (Below V.heap.size V wr) ∧ Hid (F = (allRules.drop k).filter P)) (fun i _ => 14 - (intOf i).toNat)
      case atStart => exact ⟨0, by omega, rfl, Lib.hid (Below.refl _ _), Lib.hid (HF.out.trans (List.nil_append _))⟩
      case round =>
        obtain ⟨k, hk, rfl, HR, HF⟩ := hrel
        by_cases hlt : k < 13
        · have hle : ((k : Int) + 1 ≤ 13) = True := by simp; omega
          have hBp := Lib.hid (BV.out.below HR.out)
          have HK := Lib.hid (HC.out wr (HV.out.trans (HR.out.mono HV.out.size)) ((k : Int) + 1) (by omega) (by omega))
          have HF2 := Lib.hid (HF.out.trans (by rw [filter_step P k hlt]))
          by_cases hP : P ((k : Int) + 1) = true
          · rw [hP] at HK HF2
            go_wp2_with (first | (refine wpList_load_at rfl 42 _ rfl ⟨pb, 0, none⟩ rfl cs _ hBp.out.whole Try.underlying42 rfl HPI.out ?_) | (go_at_call 17; refine HK.out.mono ?_; clear HK; rintro e W5 ⟨rfl, d5⟩; have HR5 := Lib.hid (HR.out.trans (d5.mono HR.out.size)); clear d5))
            go_ret
            exact ⟨by rw [NR.out, N.out, HF2.out]; rfl, HV.out.trans (HR5.out.mono HV.out.size)⟩
          · have hP : P ((k : Int) + 1) = false := by simpa using hP
            rw [hP] at HK HF2
            go_wp2_with (first | (refine wpList_load_at rfl 42 _ rfl ⟨pb, 0, none⟩ rfl cs _ hBp.out.whole Try.underlying42 rfl HPI.out ?_) | (go_at_call 17; refine HK.out.mono ?_; clear HK; rintro e W5 ⟨rfl, d5⟩; have HR5 := Lib.hid (HR.out.trans (d5.mono HR.out.size)); clear d5))
            go_roundw
            case rel => exact ⟨k + 1, by omega, congrArg (Value.int .i64) (by omega), HR5, Lib.hid (by rw [HF2.out]; rfl)⟩
            case measure => simp [intOf]; omega
        · have h13 : k = 13 := by omega
          subst h13
          go_wp2_with fail
          go_ret
          exact ⟨by rw [NR.out, N.out, HF.out]; rfl, HV.out.trans (HR.out.mono HV.out.size)⟩
    · have hb : touchB b = false := by simpa using hb
      rw [hb] at T2
      rw [ha, hb] at N
      go_enter Try.func10, Try.ntmps10
      go_wp2_with (first | (refine wpList_load_in rfl 29 _ rfl (ad'.add (p * 17)) rfl a.cells _ C1.out Try.underlying29 rfl op_info ?_) | (refine wpList_load_in rfl 29 _ rfl (ad'.add (q * 17)) rfl b.cells _ D2.out Try.underlying29 rfl op_info ?_) | (go_at_call 16; refine (T1.out _).mono ?_; clear T1; rintro e W2 ⟨rfl, d2⟩; replace d2 := Lib.hid (HD.out.trans d2); have D2 := Lib.hid (C2.out.below (by rw [block_add]; exact h3) d2.out)) | (go_at_call 16; refine (T2.out _).mono ?_; clear T2; rintro e W3 ⟨rfl, d3⟩; replace d3 := Lib.hid (d2.out.trans (d3.mono d2.out.size))))
      go_ret
      exact ⟨by rw [NR.out, N.out]; rfl, d3.out⟩
  · have ha : touchB a = false := by simpa using ha
    rw [ha] at T1
    rw [ha] at N
    clear T2
    go_enter Try.func10, Try.ntmps10
    go_wp2_with (first | (refine wpList_load_in rfl 29 _ rfl (ad'.add (p * 17)) rfl a.cells _ C1.out Try.underlying29 rfl op_info ?_) | (go_at_call 16; refine (T1.out _).mono ?_; clear T1; rintro e W2 ⟨rfl, d2⟩; replace d2 := Lib.hid (HD.out.trans d2)))
    go_ret
    exact ⟨by rw [NR.out, N.out]; rfl, d2.out⟩
/-- The contract of Rule. -/
theorem Rule_any (s : OSl) (i j : Int) (w : World) (hS : s.At w) (hc : s.n ≤ s.c) :
    Calls Try.prog 10 #[s.v, .int .i64 i, .int .i64 j] w fun e w' => e = .returned (.int .i64 (ruleOf s.l i j)) ∧ Below w.heap.size w w' := by
  have hl := hS.n
  by_cases h : 0 ≤ i ∧ i < j ∧ j < s.n
  · obtain ⟨p, rfl⟩ := Int.eq_ofNat_of_zero_le h.1
    obtain ⟨q, rfl⟩ := Int.eq_ofNat_of_zero_le (show 0 ≤ j by omega)
    exact Rule_some s p q w hS (by omega) (by omega) hc
  · refine (Rule_none s i j w hS h).mono ?_
    rintro e w' ⟨rfl, d⟩
    exact ⟨by unfold ruleOf; rw [rulesOf_not s.l i j (by rw [hl]; exact h)]; rfl, d⟩
end Go.Proofs.Ytdfapbfpmjbnhaa.Hand
