/- DERIVED. DERIVED. All rules that hold of two places. -/
import Derived.Test.YtdfapbfpmjbnhaaProg
import Derived.Test.YtdfapbfpmjbnhaaMBits
import Derived.Test.YtdfapbfpmjbnhaaMWalk
import Derived.Test.YtdfapbfpmjbnhaaMArg
import Derived.Test.YtdfapbfpmjbnhaaMRow
import Derived.Test.YtdfapbfpmjbnhaaMOpen
import Derived.Test.YtdfapbfpmjbnhaaMPart
import Derived.Test.YtdfapbfpmjbnhaaMGoMap
import Derived.Test.YtdfapbfpmjbnhaaMReg
import Derived.Test.YtdfapbfpmjbnhaaMQHead
import Derived.Test.YtdfapbfpmjbnhaaHF
import Derived.Below
import Derived.Deep.Draws
import Derived.Deep.AppendLies
import Derived.Maps.AppendAt
import Derived.OwnWalk
import Derived.Laws.BytesArg
import Derived.Laws.MakeOwn
import Derived.Laws.OwnMore
import Derived.Deep.OwnRows
import Derived.Tactics
import Derived.Lib.ConvBytes
import Derived.Laws.Slices
import Derived.WalkKit
import Derived.KernelRfl
import Derived.RowKit3
import Derived.Deep.LoopGhost
import Derived.Deep.QuietTactic
import Derived.BigQuiet
import Derived.WideLaws
import Derived.Deep.DeepCutAuto
import Derived.Deep.CutBlock
import Derived.Deep.RegionHeld3
import Derived.Laws.Rows
import Derived.Lib.AppendStr
import Derived.ArgAppend
import Derived.Laws.IdiomCopy
import Derived.OrdersHeld
import Derived.Laws.BitsLemmas
import Derived.Laws.Bits64
import Derived.RowKit
import Derived.Outline
import Derived.Handy
import Derived.Lib.Hide
import Derived.Deep.Light
import Derived.Laws.CopyOwn
import Derived.Laws.AppendOwnNone
import Derived.RangeFuncNested
import Derived.RangeFuncBound
import Derived.RangeFuncCalls
import Derived.RangeFuncLeaves
import Derived.Shelf.Abstract
import Derived.Shelf.RegionOpen
import Derived.OwnWalkIn
import Derived.TacticsInMore
import Derived.LoopNIn
import Derived.LoopIn
import Derived.Maps.OwnIn
import Derived.Deep.WholeRow
namespace Go.Proofs.Ytdfapbfpmjbnhaa.Hand
open Go Go.RowKit Go.Proofs.Ytdfapbfpmjbnhaa.M
set_option linter.unusedVariables false
set_option linter.unusedSimpArgs false
attribute [local go_sem] Oper.semAt_some
/-- The operations between two places. -/
def betweenOf (l : List OpS) (p q : Nat) : List OpS := (l.drop (p + 1)).take (q - (p + 1))
def allRules : List Int := [1, 2, 3, 4, 5, 6, 7, 8, 9, 10, 11, 12, 13]
def rulesAt (l : List OpS) (p q : Nat) (a b : OpS) : List Int := if touchB a && touchB b then allRules.filter (holdsOf a b (betweenOf l p q)) else []
/-- The rules that hold of two places. -/
def rulesOf (l : List OpS) (i j : Int) : List Int :=
  if 0 ≤ i ∧ i < j ∧ j < l.length then (match l[i.toNat]?, l[j.toNat]? with | some a, some b => rulesAt l i.toNat j.toNat a b | _, _ => []) else []
theorem rulesOf_not (l : List OpS) (i j : Int) (h : ¬ (0 ≤ i ∧ i < j ∧ j < l.length)) : rulesOf l i j = [] := if_neg h
theorem rulesOf_at (l : List OpS) (p q : Nat) (h1 : p < q) (h2 : q < l.length) (h3 : p < l.length) : rulesOf l p q = rulesAt l p q l[p] l[q] := by
  unfold rulesOf
  rw [if_pos ⟨by omega, by omega, by omega⟩]
  simp only [Int.toNat_natCast, List.getElem?_eq_getElem h2, List.getElem?_eq_getElem h3]
def noInts : Sl := ⟨none, 0, 0, []⟩
theorem noInts_at (w : World) : noInts.At w := ⟨fun h => absurd rfl h, rfl, by simp [noInts], fun x hx => by cases hx⟩
set_option maxRecDepth 100000 in
set_option maxHeartbeats 4000000 in
theorem Rules_none (s : OSl) (i j : Int) (w : World) (hS : s.At w) (hN : ¬ (0 ≤ i ∧ i < j ∧ j < s.n)) :
    Calls Try.prog 8 #[s.v, .int .i64 i, .int .i64 j] w fun e w' => e = .returned noInts.v ∧ Below w.heap.size w w' := by
  have hm := hS.m
  have HD := Lib.hid (Below.refl w.heap.size w)
  show Calls Try.prog 8 #[.slice s.a s.n s.c, .int .i64 i, .int .i64 j] w _
  generalize s.a = sa at *
  generalize s.n = sn at *
  generalize s.c = sc at *
  clear hS s
  by_cases h1 : i < 0
  · clear hN
    go_enter Try.func8, Try.ntmps8
    go_wp2_with fail
    go_ret
    exact ⟨rfl, HD.out⟩
  · by_cases h2 : j ≥ sn
    · clear hN
      go_enter Try.func8, Try.ntmps8
      go_wp2_with fail
      go_ret
      exact ⟨rfl, HD.out⟩
    · have h3 : i ≥ j := by omega
      clear hN
      go_enter Try.func8, Try.ntmps8
      go_wp2_with fail
      go_ret
      exact ⟨rfl, HD.out⟩
theorem OSl.At.sub {w : World} {s : OSl} (h : s.At w) {ad : Addr} (e : s.a = some ad) {p q : Nat} (h1 : p < q) (h2 : q < s.n) : (⟨some (ad.add ((p + 1) * 17)), q - (p + 1), s.c - (p + 1), betweenOf s.l p q⟩ : OSl).At w := by
  have hn := h.n
  have hm := h.m
  obtain ⟨ad', e', h3, h4⟩ := h.r (fun e => by rw [e] at hn; simp at hn; omega)
  have : ad' = ad := by rw [e] at e'; injection e' with e'; exact e'.symm
  subst this
  refine ⟨fun _ => ⟨_, rfl, by rw [block_add]; exact h3, fun k o hk => ?_⟩, by simp [betweenOf]; omega, by show q - (p + 1) ≤ _; omega, fun o ho => h.o o ?_⟩
  · have hk2 : s.l[p + 1 + k]? = some o := by
      unfold betweenOf at hk
      rw [List.getElem?_take] at hk
      split at hk
      · rw [List.getElem?_drop] at hk; exact hk
      · cases hk
    rw [addr_add, show (p + 1) * 17 + k * 17 = (p + 1 + k) * 17 by omega]
    exact h4 _ _ hk2
  · exact List.mem_of_mem_drop (List.mem_of_mem_take ho)
structure RL (V wr : World) (o : Value) (acc : List Int) : Prop where
  own : wr.ownsRow V.heap.size 3 1 o acc.length (acc.map (Value.int .i64))
  d : Below V.heap.size V wr
  wf : ∀ x ∈ acc, (Lit.int .i64 x).wf = true
theorem RL.out {V wr : World} {o : Value} {acc : List Int} (h : RL V wr o acc) (hn : acc.length ≤ 13) : ∃ r : Sl, o = r.v ∧ r.At wr ∧ r.l = acc := by
  rcases h.own.2 with ⟨e, h0⟩ | ⟨g, cap, cur, e, _⟩
  · have : acc = [] := List.eq_nil_of_length_eq_zero h0
    exact ⟨noInts, e, noInts_at _, by rw [this]; rfl⟩
  · subst e
    exact ⟨⟨some ⟨g, 0, none⟩, acc.length, cap, acc⟩, rfl, ⟨fun _ => ⟨_, rfl, (h.own.lt g rfl).2, fun j x hj => h.own.cells (g := g) rfl j _ (by rw [List.getElem?_map, hj]; rfl)⟩, rfl, by show acc.length ≤ _; omega, h.wf⟩, rfl⟩
theorem RL.nil (V : World) : RL V V (.slice none 0 0) [] := ⟨World.ownsRow_nil _ _ _ _, Below.refl _ _, fun x hx => by cases hx⟩
theorem RL.below {V wr wr' : World} {o : Value} {acc : List Int} (h : RL V wr o acc) (d : Below wr.heap.size wr wr') : RL V wr' o acc :=
  ⟨h.own.kept (grown_of_below d) (by cases hb : o.ownBlock with | none => exact .inl rfl | some k => exact .inr (by simp)), h.d.trans (d.mono h.d.size), h.wf⟩
theorem RL.more {V wr wr' : World} {o o' : Value} {acc : List Int} (h : RL V wr o acc) (x : Int) (hx : (Lit.int .i64 x).wf = true) (h1 : wr'.ownsRow V.heap.size 3 1 o' (acc.length + 1) (acc.map (Value.int .i64) ++ [Value.int .i64 x])) (hg : wr.grownBy wr' o.ownBlock) : RL V wr' o' (acc ++ [x]) :=
  ⟨by rw [List.length_append, List.map_append]; exact h1, h.d.grown hg h.d.size (fun k e => (h.own.lt k e).1), fun y hy => by
    rcases List.mem_append.1 hy with hy | hy
    · exact h.wf y hy
    · rw [List.mem_singleton.1 hy]; exact hx⟩
theorem rules_at : ∀ k : Nat, (h : k < allRules.length) → allRules[k] = (k : Int) + 1 := by decide
theorem filter_step (P : Int → Bool) (k : Nat) (h : k < 13) : (allRules.drop k).filter P = (if P ((k : Int) + 1) then [(k : Int) + 1] else []) ++ (allRules.drop (k + 1)).filter P := by
  have hk : k < allRules.length := h
  rw [List.drop_eq_getElem_cons hk, List.filter_cons, rules_at k hk]
  split <;> rfl
theorem int_info : ∃ i : TypeInfo, Try.prog.info? 3 = some i ∧ i.zero = some (.int .i64 0) ∧ i.size = 1 ∧ i.bytes = 8 := ⟨_, rfl, rfl, rfl, rfl⟩
theorem pair_info_of (a b : OpS) (s : OSl) : (Try.prog.info? 42).map (·.size) = some (pairC a b s).size := by rw [pair_size]; exact pair_info
theorem wf_small (x : Int) (h1 : 0 ≤ x) (h2 : x ≤ 9223372036854775807) : (Lit.int .i64 x).wf = true := by
  have e1 : IntKind.i64.min = -9223372036854775808 := by kernel_rfl
  have e2 : IntKind.i64.max = 9223372036854775807 := by kernel_rfl
  simp only [Lit.wf, e1, e2, Bool.and_eq_true, decide_eq_true_eq]
  omega
def zOp : OpS := ⟨0, false, false, false, 0, 0, false, false, 0, 0, 0, 0, ⟨none, 0, 0, []⟩, 0, ⟨none, 0, 0, []⟩, ⟨none, 0, 0, []⟩, ⟨none, 0, 0, []⟩⟩
def pairZero : Array Value := pairC zOp zOp ⟨none, 0, 0, []⟩
theorem alloc_pair (w : World) : (Instr.alloc 42 true (.tuple #[])).run Try.prog w = .ok (.pointer (some ⟨w.heap.size, 0, none⟩)) (w.alloc (.cells pairZero 42)) := by kernel_rfl
theorem run_build_pair (a b : OpS) (s : OSl) (V : World) : (Instr.build 42 #[(0, .agg a.cells), (1, .agg b.cells), (2, s.v)]).run Try.prog V = .ok (.agg (pairC a b s)) V := by kernel_rfl
set_option maxRecDepth 100000 in
set_option maxHeartbeats 4000000 in
theorem Rules_some (s : OSl) (p q : Nat) (w : World) (hS : s.At w) (h1 : p < q) (h2 : q < s.n) (hc : s.n ≤ s.c) :
    Calls Try.prog 8 #[s.v, .int .i64 p, .int .i64 q] w fun e w' => ∃ r : Sl, e = .returned r.v ∧ r.At w' ∧ r.l = rulesOf s.l p q ∧ Below w.heap.size w w' := by
  have hm := hS.m
  have g1 : decide ((p : Int) < 0) = false := by simp
  have g2 : decide (s.n ≤ q) = false := by simp; omega
  have g3 : decide (q ≤ p) = false := by simp; omega
  have HD := Lib.hid (Below.refl w.heap.size w)
  obtain ⟨ad, e, h3, hp, h5, h6⟩ := hS.cell (k := p) (by omega)
  obtain ⟨ad', e', h3', hq, h5', h6'⟩ := hS.cell (k := q) (by omega)
  have : ad' = ad := by rw [e] at e'; injection e' with e'; exact e'.symm
  subst this
  clear e'
  have N := Lib.hid (rulesOf_at s.l p q h1 hq hp)
  have HS := Lib.hid hS
  have C1 := Lib.hid h5
  have E1 := Lib.hid h5
  have E2 := Lib.hid h5'
  have C2 := Lib.hid h5'
  have A1 := Lib.hid h6
  have A2 := Lib.hid h6'
  show Calls Try.prog 8 #[.slice s.a s.n s.c, .int .i64 p, .int .i64 q] w _
  rw [e]
  have T1 : Hid (∀ W, Calls Try.prog 16 #[.agg s.l[p].cells] W fun e w' => e = .returned (.bool (touchB s.l[p])) ∧ Below W.heap.size W w') := Lib.hid fun W => touches_any _ W
  have T2 : Hid (∀ W, Calls Try.prog 16 #[.agg s.l[q].cells] W fun e w' => e = .returned (.bool (touchB s.l[q])) ∧ Below W.heap.size W w') := Lib.hid fun W => touches_any _ W
  have e := Lib.hid e
  clear hS h5 h5' h6 h6' h3'
  have hl := Lib.hid HS.out.n
  generalize rulesOf s.l p q = R at *
  generalize s.l[p] = a at *
  generalize s.l[q] = b at *
  have HC : Hid (∀ W, Below w.heap.size w W → ∀ n : Int, 1 ≤ n → n ≤ 13 → Calls Try.prog 17 #[.agg (pairC a b ⟨some (ad'.add ((p + 1) * 17)), q - (p + 1), s.c - (p + 1), betweenOf s.l p q⟩), .int .i64 n] W fun e w' => e = .returned (.bool (holdsOf a b (betweenOf s.l p q) n)) ∧ Below W.heap.size W w') :=
    Lib.hid fun W dW n hn1 hn2 => holds_any a b ⟨some (ad'.add ((p + 1) * 17)), q - (p + 1), s.c - (p + 1), betweenOf s.l p q⟩ n W (A1.out.below dW) (A2.out.below dW) ((HS.out.sub e.out h1 h2).below dW) hn1 hn2
  have n1 : rulesAt s.l p q a b = if touchB a && touchB b then allRules.filter (holdsOf a b (betweenOf s.l p q)) else [] := rfl
  have N := Lib.hid (N.out.trans n1)
  clear n1
  have HF := Lib.hid (show allRules.filter (holdsOf a b (betweenOf s.l p q)) = [] ++ (allRules.drop 0).filter (holdsOf a b (betweenOf s.l p q)) from rfl)
  generalize allRules.filter (holdsOf a b (betweenOf s.l p q)) = F at *
  by_cases ha : touchB a = true
  · rw [ha] at T1
    by_cases hb : touchB b = true
    · rw [hb] at T2
      rw [ha, hb] at N
      go_enter Try.func8, Try.ntmps8
      go_wp2_with (first | (refine wpList_load_in rfl 29 _ rfl (ad'.add (p * 17)) rfl a.cells _ C1.out Try.underlying29 rfl op_info ?_) | (refine wpList_load_in rfl 29 _ rfl (ad'.add (q * 17)) rfl b.cells _ D2.out Try.underlying29 rfl op_info ?_) | (go_at_call 16; refine (T1.out _).mono ?_; clear T1; rintro e W2 ⟨rfl, d2⟩; replace d2 := Lib.hid (HD.out.trans d2); have D2 := Lib.hid (C2.out.below (by rw [block_add]; exact h3) d2.out)) | (go_at_call 16; refine (T2.out _).mono ?_; clear T2; rintro e W3 ⟨rfl, d3⟩; replace d3 := Lib.hid (d2.out.trans (d3.mono d2.out.size))))
      clear g1 g2 g3 D2
      have HPI := Lib.hid (pair_info_of a b (⟨some (ad'.add ((p + 1) * 17)), q - (p + 1), s.c - (p + 1), betweenOf s.l p q⟩ : OSl))
      have hsc : q ≤ s.c := by omega
      have hse : ¬ s.c = p + 1 := by omega
      have hpq : p + 1 ≤ q := by omega
      have hpz : (0 : Int) ≤ p + 1 ∧ (p : Int) + 1 ≤ q := by omega
      have hpn : ¬ s.n ≤ p := by omega
      have hqn : ¬ s.n ≤ q := by omega
      refine wp_region_head 14 (by kernel_rfl) (by decide) (by kernel_rfl) (by kernel_rfl) (by kernel_rfl) (fun _ _ _ _ _ h => h) ?_
      simp only [List.take_succ_cons, List.take_zero]
      go_big_quiet_step (fail)
      go_big_quiet_step (fail)
      go_big_quiet_step (fail)
      refine wpQuiet_load rfl 29 _ rfl (ad'.add (p * 17)) rfl a.cells _ (fun V hV => by obtain ⟨pp, rfl⟩ := hV; exact (E1.out.below (by rw [block_add]; exact h3) d3.out).below (by rw [block_add]; exact Nat.lt_of_lt_of_le h3 d3.out.size) (below_regrown _ _ _)) Try.underlying29 rfl op_info ?_
      simp only [Act.put, List.setIfInBounds_toArray, List.set_cons_succ, List.set_cons_zero]
      go_big_quiet_step (fail)
      go_big_quiet_step (fail)
      go_big_quiet_step (fail)
      refine wpQuiet_load rfl 29 _ rfl (ad'.add (q * 17)) rfl b.cells _ (fun V hV => by obtain ⟨pp, rfl⟩ := hV; exact (E2.out.below (by rw [block_add]; exact h3) d3.out).below (by rw [block_add]; exact Nat.lt_of_lt_of_le h3 d3.out.size) (below_regrown _ _ _)) Try.underlying29 rfl op_info ?_
      simp only [Act.put, List.setIfInBounds_toArray, List.set_cons_succ, List.set_cons_zero]
      go_big_quiet_step (fail)
      go_big_quiet_step (fail)
      go_big_quiet_step (fail)
      go_big_quiet_step (fail)
      go_big_quiet_step (fail)
      refine wpQuiet_build rfl 42 _ rfl #[(0, .agg a.cells), (1, .agg b.cells), (2, (⟨some (ad'.add ((p + 1) * 17)), q - (p + 1), s.c - (p + 1), betweenOf s.l p q⟩ : OSl).v)] (by kernel_rfl) _ (run_build_pair _ _ _) ?_
      simp only [Act.put, List.setIfInBounds_toArray, List.set_cons_succ, List.set_cons_zero]
      refine wpQuiet_nil ?_
      intro _ hw'
      obtain ⟨⟨dq, osq⟩, hw''⟩ := hw'
      subst hw''
      show wpAnyH Try.prog .any _ _ _ 2 _ _ _
      have bG := below_regrown W3 dq osq
      generalize Sort.grow (redrawn W3 dq) osq = G at *
      refine wpAnyH_all (rs := [14]) (by kernel_rfl) (by simp) ?_
      intro i hi
      simp only [List.mem_singleton] at hi
      subst hi
      refine wpOp_alloc rfl rfl _ rfl _ (alloc_pair _) ⟨regrown_of_below (bG.alloc bG.size _), ?_⟩
      refine wpAnyH_all (rs := [15]) (by kernel_rfl) (by simp) ?_
      intro i hi
      simp only [List.mem_singleton] at hi
      subst hi
      refine wpOp_store rfl rfl _ _ _ rfl G.heap.size (pairC a b ⟨some (ad'.add ((p + 1) * 17)), q - (p + 1), s.c - (p + 1), betweenOf s.l p q⟩) rfl rfl 42 pairZero (Blk.new _ _ _) pair_info rfl (pair_one _ _ _) ⟨regrown_of_below (below_row (bG.alloc bG.size _) bG.size _), ?_⟩
      refine wpAnyH_done (by kernel_rfl) ?_ _
      simp only [List.getElem_toArray, List.getElem_cons_succ, List.getElem_cons_zero, Act.put, List.setIfInBounds_toArray, List.set_cons_succ, List.set_cons_zero]
      rw [World.setRow_alloc_new]
      generalize hV : World.alloc _ _ = V
      obtain ⟨bV, dV, sV⟩ := arg_box hV
      clear hV
      have HV := Lib.hid (d3.out.trans (bG.trans (dV.mono bG.size) |>.mono d3.out.size))
      have BV := Lib.hid bV
      clear bG dV bV d3 hsc hse hpq hpz hpn hqn
      have hx : Hid (pairC a b ⟨some (ad'.add ((p + 1) * 17)), q - (p + 1), s.c - (p + 1), betweenOf s.l p q⟩ = pairC a b ⟨some (ad'.add ((p + 1) * 17)), q - (p + 1), s.c - (p + 1), betweenOf s.l p q⟩) := Lib.hid rfl
      generalize pairC a b ⟨some (ad'.add ((p + 1) * 17)), q - (p + 1), s.c - (p + 1), betweenOf s.l p q⟩ = cs at *
      generalize holdsOf a b (betweenOf s.l p q) = P at *
      generalize G.heap.size = pb at *
      clear hx C1 E1 E2 C2 A1 A2 HS hl e ha hb
      obtain ⟨i0, hi, hz0, hz1, hz2⟩ := int_info
      go_wp2_with fail
      go_loopw [6, 8] (fun o i wr => ∃ k : Nat, k ≤ 13 ∧ i = .int .i64 ((k : Int) + 1) ∧ ∃ acc, acc.length ≤ k ∧ Hid (RL V wr o acc) ∧ Hid (F = acc ++ (allRules.drop k).filter P)) (fun _ i _ => 14 - (intOf i).toNat)
      case atStart => exact ⟨0, by omega, rfl, [], by simp, Lib.hid (RL.nil V), HF⟩
      case round =>
        obtain ⟨k, hk, rfl, acc, hacc, HR, HF⟩ := hrel
        by_cases hlt : k < 13
        · have hle : ((k : Int) + 1 ≤ 13) = True := by simp; omega
          have hBp := Lib.hid (BV.out.below HR.out.d)
          have HK := Lib.hid (HC.out wr (HV.out.trans (HR.out.d.mono HV.out.size)) ((k : Int) + 1) (by omega) (by omega))
          have HF2 := Lib.hid (HF.out.trans (by rw [filter_step P k hlt]))
          by_cases hP : P ((k : Int) + 1) = true
          · rw [hP] at HK HF2
            go_wp2_with (first | (refine wpList_load_at rfl 42 _ rfl ⟨pb, 0, none⟩ rfl cs _ hBp.out.whole Try.underlying42 rfl HPI.out ?_) | (go_at_call 17; refine HK.out.mono ?_; clear HK; rintro e W5 ⟨rfl, d5⟩; have HR5 := Lib.hid (HR.out.below d5); clear d5) | (at_builtin; refine wpList_append_own _ rfl (.tmp 59) (.tmp 61) 27 rfl V.heap.size 3 i0 (.int .i64 0) 1 8 Try.underlying27 hi hz0 hz1 hz2 rfl (by decide) _ acc.length (acc.map (Value.int .i64)) rfl (HR5.out.own.alloc _) ⟨W5.heap.size, 0, none⟩ 1 1 [.int .i64 ((k : Int) + 1)] rfl rfl (cell_one_new _ _ _) (by intro u hu; simp at hu; subst hu; rfl) (by unfold maxLen; omega) (by omega) (by have := HR5.out.d.size; simp; omega) ?_; intro v6 w6 hown6 hgrow6 hnil6))
            go_roundw
            case rel =>
              exact ⟨k + 1, by omega, congrArg (Value.int .i64) (by omega), acc ++ [(k : Int) + 1], by simp; omega, Lib.hid ((HR5.out.below ((Below.refl _ _).alloc (Nat.le_refl _) _)).more _ (wf_small _ (by omega) (by omega)) hown6 hgrow6), Lib.hid (by rw [HF2.out]; simp)⟩
            case measure => simp [intOf]; omega
          · have hP : P ((k : Int) + 1) = false := by simpa using hP
            rw [hP] at HK HF2
            go_wp2_with (first | (refine wpList_load_at rfl 42 _ rfl ⟨pb, 0, none⟩ rfl cs _ hBp.out.whole Try.underlying42 rfl HPI.out ?_) | (go_at_call 17; refine HK.out.mono ?_; clear HK; rintro e W5 ⟨rfl, d5⟩; have HR5 := Lib.hid (HR.out.below d5); clear d5))
            go_roundw
            case rel =>
              exact ⟨k + 1, by omega, congrArg (Value.int .i64) (by omega), acc, by omega, HR5, Lib.hid (by rw [HF2.out]; simp)⟩
            case measure => simp [intOf]; omega
        · have h13 : k = 13 := by omega
          subst h13
          go_wp2_with fail
          go_ret
          obtain ⟨r, hr1, hr2, hr3⟩ := HR.out.out (by omega)
          exact ⟨r, congrArg Ending.returned hr1, hr2, by rw [hr3, N.out, HF.out]; simp [allRules], HV.out.trans (HR.out.d.mono HV.out.size)⟩

    · have hb : touchB b = false := by simpa using hb
      rw [hb] at T2
      rw [ha, hb] at N
      go_enter Try.func8, Try.ntmps8
      go_wp2_with (first | (refine wpList_load_in rfl 29 _ rfl (ad'.add (p * 17)) rfl a.cells _ C1.out Try.underlying29 rfl op_info ?_) | (refine wpList_load_in rfl 29 _ rfl (ad'.add (q * 17)) rfl b.cells _ D2.out Try.underlying29 rfl op_info ?_) | (go_at_call 16; refine (T1.out _).mono ?_; clear T1; rintro e W2 ⟨rfl, d2⟩; replace d2 := Lib.hid (HD.out.trans d2); have D2 := Lib.hid (C2.out.below (by rw [block_add]; exact h3) d2.out)) | (go_at_call 16; refine (T2.out _).mono ?_; clear T2; rintro e W3 ⟨rfl, d3⟩; replace d3 := Lib.hid (d2.out.trans (d3.mono d2.out.size))))
      go_ret
      exact ⟨noInts, rfl, noInts_at _, by rw [N.out]; rfl, d3.out⟩
  · have ha : touchB a = false := by simpa using ha
    rw [ha] at T1
    rw [ha] at N
    clear T2
    go_enter Try.func8, Try.ntmps8
    go_wp2_with (first | (refine wpList_load_in rfl 29 _ rfl (ad'.add (p * 17)) rfl a.cells _ C1.out Try.underlying29 rfl op_info ?_) | (go_at_call 16; refine (T1.out _).mono ?_; clear T1; rintro e W2 ⟨rfl, d2⟩; replace d2 := Lib.hid (HD.out.trans d2)))
    go_ret
    exact ⟨noInts, rfl, noInts_at _, by rw [N.out]; rfl, d2.out⟩
/-- The contract of Rules. -/
theorem Rules_any (s : OSl) (i j : Int) (w : World) (hS : s.At w) (hc : s.n ≤ s.c) :
    Calls Try.prog 8 #[s.v, .int .i64 i, .int .i64 j] w fun e w' => ∃ r : Sl, e = .returned r.v ∧ r.At w' ∧ r.l = rulesOf s.l i j ∧ Below w.heap.size w w' := by
  have hl := hS.n
  by_cases h : 0 ≤ i ∧ i < j ∧ j < s.n
  · obtain ⟨p, rfl⟩ := Int.eq_ofNat_of_zero_le h.1
    obtain ⟨q, rfl⟩ := Int.eq_ofNat_of_zero_le (show 0 ≤ j by omega)
    exact Rules_some s p q w hS (by omega) (by omega) hc
  · refine (Rules_none s i j w hS h).mono ?_
    rintro e w' ⟨rfl, d⟩
    exact ⟨noInts, rfl, noInts_at _, (rulesOf_not s.l i j (by rw [hl]; exact h)).symm, d⟩
end Go.Proofs.Ytdfapbfpmjbnhaa.Hand
