/- DERIVED. DERIVED. The whole walk of the law OrderOwn. -/
import Derived.Test.YtdfapbfpmjbnhaaProg
import Derived.Test.YtdfapbfpmjbnhaaMBits
import Derived.Test.YtdfapbfpmjbnhaaMWalk
import Derived.Test.YtdfapbfpmjbnhaaMArg
import Derived.Test.YtdfapbfpmjbnhaaMRow
import Derived.Test.YtdfapbfpmjbnhaaMOpen
import Derived.Test.YtdfapbfpmjbnhaaMPart
import Derived.Test.YtdfapbfpmjbnhaaMGoMap
import Derived.Test.YtdfapbfpmjbnhaaMQPick
import Derived.Test.YtdfapbfpmjbnhaaHK
import Derived.Below
import Derived.Deep.Draws
import Derived.Deep.AppendLies
import Derived.Maps.AppendAt
import Derived.OwnWalk
import Derived.Laws.BytesArg
import Derived.Laws.MakeOwn
import Derived.Laws.OwnMore
import Derived.Deep.OwnRows
import Derived.Tactics
import Derived.Lib.ConvBytes
import Derived.Laws.Slices
import Derived.WalkKit
import Derived.KernelRfl
import Derived.RowKit3
import Derived.Deep.LoopGhost
import Derived.Deep.QuietTactic
import Derived.BigQuiet
import Derived.WideLaws
import Derived.Deep.DeepCutAuto
import Derived.Deep.CutBlock
import Derived.Deep.RegionHeld3
import Derived.Laws.Rows
import Derived.Lib.AppendStr
import Derived.ArgAppend
import Derived.Laws.IdiomCopy
import Derived.OrdersHeld
import Derived.Laws.BitsLemmas
import Derived.Laws.Bits64
import Derived.RowKit
import Derived.Outline
import Derived.Handy
import Derived.Lib.Hide
import Derived.Deep.Light
import Derived.Laws.CopyOwn
import Derived.Laws.AppendOwnNone
import Derived.RangeFuncNested
import Derived.RangeFuncBound
import Derived.RangeFuncCalls
import Derived.RangeFuncLeaves
import Derived.Shelf.Abstract
import Derived.Shelf.RegionOpen
import Derived.OwnWalkIn
import Derived.TacticsInMore
import Derived.LoopNIn
import Derived.LoopIn
import Derived.Maps.OwnIn
import Derived.Deep.WholeRow
namespace Go.Proofs.Ytdfapbfpmjbnhaa.Hand
open Go Go.RowKit Go.Proofs.Ytdfapbfpmjbnhaa.M
set_option linter.unusedVariables false
set_option linter.unusedSimpArgs false
attribute [local go_sem] Oper.semAt_some
set_option maxRecDepth 100000 in
set_option maxHeartbeats 4000000 in
theorem own_none (s h t : OSl) (i j : Int) (w : World) (hS : s.At w) (hH : h.At w) (hT : t.At w) (hN : (lightOf s && lightOf h && lightOf t) = false) :
    Calls Try.prog 4 #[s.v, h.v, t.v, .int .i64 i, .int .i64 j] w fun e w' => e = .returned (.bool true) ∧ Below w.heap.size w w' := by
  have HD := Lib.hid (Below.refl w.heap.size w)
  have L1 : Hid (∀ W, Below w.heap.size w W → Calls Try.prog 6 #[s.v] W fun e w' => e = .returned (.bool (lightOf s)) ∧ Below W.heap.size W w') := Lib.hid fun W d => Light_any s W (hS.below d)
  have L2 : Hid (∀ W, Below w.heap.size w W → Calls Try.prog 6 #[h.v] W fun e w' => e = .returned (.bool (lightOf h)) ∧ Below W.heap.size W w') := Lib.hid fun W d => Light_any h W (hH.below d)
  have L3 : Hid (∀ W, Below w.heap.size w W → Calls Try.prog 6 #[t.v] W fun e w' => e = .returned (.bool (lightOf t)) ∧ Below W.heap.size W w') := Lib.hid fun W d => Light_any t W (hT.below d)
  generalize lightOf s = b1 at *
  generalize lightOf h = b2 at *
  generalize lightOf t = b3 at *
  generalize s.v = sv at *
  generalize h.v = hv at *
  generalize t.v = tv at *
  clear hS hH hT
  cases b1 <;> cases b2 <;> cases b3 <;> first | (simp at hN; done) | skip
  all_goals
    clear hN
    go_enter Try.func4, Try.ntmps4
    go_wp2_with (first
      | (go_at_call 6; refine (L1.out _ HD.out).mono ?_; clear L1; rintro e W ⟨rfl, dd⟩; replace HD := Lib.hid (HD.out.trans (dd.mono HD.out.size)); clear dd)
      | (go_at_call 6; refine (L2.out _ HD.out).mono ?_; clear L2; rintro e W ⟨rfl, dd⟩; replace HD := Lib.hid (HD.out.trans (dd.mono HD.out.size)); clear dd)
      | (go_at_call 6; refine (L3.out _ HD.out).mono ?_; clear L3; rintro e W ⟨rfl, dd⟩; replace HD := Lib.hid (HD.out.trans (dd.mono HD.out.size)); clear dd)
      | (go_at_call 7; refine (lives_any _).mono ?_; rintro e W ⟨rfl, dd⟩; replace HD := Lib.hid (HD.out.trans (dd.mono HD.out.size)); clear dd))
    go_ret
    exact ⟨rfl, HD.out⟩
/-- While operations are appended: what the call owns, from a world on. -/
structure OW (G W : World) (v : Value) (l : List OpS) : Prop where
  own : OwnOps W G.heap.size v l
  d : Below G.heap.size G W
theorem OW.start (G : World) : OW G (G.alloc (.cells #[] 29)) (.slice (some ⟨G.heap.size, 0, none⟩) 0 0) [] :=
  ⟨World.ownsRow_lit G #[] 0 (Nat.le_refl _) (Nat.zero_le _) rfl, (Below.refl _ _).alloc (Nat.le_refl _) _⟩
theorem OW.more {G W W' : World} {v v' : Value} {l l' : List OpS} (H : OW G W v l) (h1 : OwnOps W' G.heap.size v' l') (hg : W.grownBy W' v.ownBlock) : OW G W' v' l' :=
  ⟨h1, H.d.grown hg H.d.size (fun k e => (H.own.lt k e).1)⟩
theorem light_n {s : OSl} (h : lightOf s = true) : s.n ≤ 60 := by
  unfold lightOf at h
  simp at h
  exact h.1
def partOf (s : OSl) (p q : Nat) : OSl := ⟨s.a.map (fun a => a.add (p * 17)), q + 1 - p, s.c - p, (s.l.drop p).take (q + 1 - p)⟩
theorem part_at {w : World} {s : OSl} (h : s.At w) {p q : Nat} (h1 : p < q) (h2 : q < s.n) : (partOf s p q).At w := by
  have hn := h.n
  have hm := h.m
  obtain ⟨ad, e, h3, h4⟩ := h.r (fun e => by rw [e] at hn; simp at hn; omega)
  refine ⟨fun _ => ⟨ad.add (p * 17), by unfold partOf; rw [e]; rfl, by rw [block_add]; exact h3, fun k o hk => ?_⟩, by simp [partOf]; omega, by show q + 1 - p ≤ _; omega, fun o ho => h.o o ?_⟩
  · have hk2 : s.l[p + k]? = some o := by
      unfold partOf at hk
      dsimp only at hk
      rw [List.getElem?_take] at hk
      split at hk
      · rw [List.getElem?_drop] at hk; exact hk
      · cases hk
    rw [addr_add, show p * 17 + k * 17 = (p + k) * 17 by omega]
    exact h4 _ _ hk2
  · exact List.mem_of_mem_drop (List.mem_of_mem_take ho)
set_option maxRecDepth 100000 in
set_option maxHeartbeats 8000000 in
theorem own_some (s h t : OSl) (i j : Int) (w : World) (hS : s.At w) (hH : h.At w) (hT : t.At w) (cS : s.n ≤ s.c) (zS : s.a = none → s.n = 0 ∧ s.c = 0) (zH : h.a = none → h.n = 0 ∧ h.c = 0) (zT : t.a = none → t.n = 0 ∧ t.c = 0) (b1 : lightOf s = true) (b2 : lightOf h = true) (b3 : lightOf t = true) :
    Calls Try.prog 4 #[s.v, h.v, t.v, .int .i64 i, .int .i64 j] w fun e w' => e = .returned (.bool true) ∧ Below w.heap.size w w' := by
  have HD := Lib.hid (Below.refl w.heap.size w)
  have L1 : Hid (∀ W, Below w.heap.size w W → Calls Try.prog 6 #[s.v] W fun e w' => e = .returned (.bool true) ∧ Below W.heap.size W w') := Lib.hid fun W d => b1 ▸ Light_any s W (hS.below d)
  have L2 : Hid (∀ W, Below w.heap.size w W → Calls Try.prog 6 #[h.v] W fun e w' => e = .returned (.bool true) ∧ Below W.heap.size W w') := Lib.hid fun W d => b2 ▸ Light_any h W (hH.below d)
  have L3 : Hid (∀ W, Below w.heap.size w W → Calls Try.prog 6 #[t.v] W fun e w' => e = .returned (.bool true) ∧ Below W.heap.size W w') := Lib.hid fun W d => b3 ▸ Light_any t W (hT.below d)
  have m1 := light_n b1
  have m2 := light_n b2
  have m3 := light_n b3
  have HS := Lib.hid hS
  have HH := Lib.hid hH
  have HT := Lib.hid hT
  have l1 := hS.n
  have l2 := hH.n
  have l3 := hT.n
  have ZS := Lib.hid zS
  have ZH := Lib.hid zH
  have ZT := Lib.hid zT
  clear hS hH hT zS zH zT
  have vs : Hid (s.v = .slice s.a s.n s.c) := Lib.hid rfl
  have vh : Hid (h.v = .slice h.a h.n h.c) := Lib.hid rfl
  show Calls Try.prog 4 #[.slice s.a s.n s.c, .slice h.a h.n h.c, t.v, .int .i64 i, .int .i64 j] w _
  go_enter Try.func4, Try.ntmps4
  go_wp2_with (first
      | (go_at_call 6; refine (L1.out _ HD.out).mono ?_; clear L1; rintro e W ⟨rfl, dd⟩; replace HD := Lib.hid (HD.out.trans (dd.mono HD.out.size)); clear dd)
      | (go_at_call 6; refine (L2.out _ HD.out).mono ?_; clear L2; rintro e W ⟨rfl, dd⟩; replace HD := Lib.hid (HD.out.trans (dd.mono HD.out.size)); clear dd)
      | (go_at_call 6; refine (L3.out _ HD.out).mono ?_; clear L3; rintro e G ⟨rfl, dd⟩; replace HD := Lib.hid (HD.out.trans (dd.mono HD.out.size)); clear dd; have O0 := Lib.hid (OW.start G))
      | (at_builtin; refine append_ops rfl (.tmp 28) (.tmp 29) rfl G.heap.size _ [] rfl O0.out.own h rfl (HH.out.below (HD.out.trans (O0.out.d.mono HD.out.size))) ZH.out (by simp; omega) O0.out.d.size ?_; intro v1 W1 o1 g1; have O1 := Lib.hid (O0.out.more o1 g1); clear o1 g1 O0)
      | (at_builtin; refine append_ops rfl (.tmp 30) (.tmp 31) rfl G.heap.size _ _ rfl O1.out.own s rfl (HS.out.below (HD.out.trans (O1.out.d.mono HD.out.size))) ZS.out (by simp; omega) O1.out.d.size ?_; intro v2 W2 o2 g2; have O2 := Lib.hid (O1.out.more o2 g2); clear o2 g2 O1)
      | (at_builtin; refine append_ops rfl (.tmp 32) (.tmp 33) rfl G.heap.size _ _ rfl O2.out.own t rfl (HT.out.below (HD.out.trans (O2.out.d.mono HD.out.size))) ZT.out (by simp; omega) O2.out.d.size ?_; intro v3 W3 o3 g3; have O3 := Lib.hid (O2.out.more o3 g3); clear o3 g3 O2; obtain ⟨m, em, mA, mC, mL⟩ := O3.out.own.at_ (by simp; omega) (fun o ho => by
        have d3 := HD.out.trans (O3.out.d.mono HD.out.size)
        rcases List.mem_append.1 ho with ho | ho
        · rcases List.mem_append.1 ho with ho | ho
          · rcases List.mem_append.1 ho with ho | ho
            · cases ho
            · exact (HH.out.o o ho).below d3
          · exact (HS.out.o o ho).below d3
        · exact (HT.out.o o ho).below d3); subst em; have HV := Lib.hid (HD.out.trans (O3.out.d.mono HD.out.size)); replace mL := Lib.hid mL; replace mA := Lib.hid mA; clear O3 HD))
  have RS : Hid (∀ W, Below W3.heap.size W3 W → ∀ p q : Int, Calls Try.prog 8 #[.slice s.a s.n s.c, .int .i64 p, .int .i64 q] W fun e w' => ∃ r : Sl, e = .returned r.v ∧ r.At w' ∧ r.l = rulesOf s.l p q ∧ Below W.heap.size W w') := Lib.hid fun W d p q => Rules_any s p q W ((HS.out.below HV.out).below d) cS
  have RM : Hid (∀ W, Below W3.heap.size W3 W → ∀ p q : Int, Calls Try.prog 8 #[m.v, .int .i64 p, .int .i64 q] W fun e w' => ∃ r : Sl, e = .returned r.v ∧ r.At w' ∧ r.l = rulesOf m.l p q ∧ Below W.heap.size W w') := Lib.hid fun W d p q => Rules_any m p q W (mA.out.below d) mC
  go_loopw [37] (fun i wr => ∃ k : Nat, k ≤ s.n ∧ i = .int .i64 k ∧ Hid (Below W3.heap.size W3 wr)) (fun i _ => s.n - (intOf i).toNat)
  case atStart => exact ⟨0, by omega, rfl, Lib.hid (Below.refl _ _)⟩
  case round =>
    obtain ⟨p, hp, rfl, HB⟩ := hrel
    by_cases hlt : p < s.n
    · go_wp2_with fail
      go_loopw [13] (fun i wr => ∃ q : Nat, q ≤ s.n ∧ i = .int .i64 q ∧ Hid (Below W3.heap.size W3 wr)) (fun i _ => s.n - (intOf i).toNat)
      case atStart => exact ⟨p, by omega, rfl, HB⟩
      case round =>
        obtain ⟨q, hq, rfl, HB⟩ := hrel
        by_cases hlq : q < s.n
        · go_wp2_with (first
            | (go_at_call 8; refine (RS.out _ HB.out p q).mono ?_; clear RS; rintro e W5 ⟨r1, rfl, A1, E1, dd⟩; replace HB := Lib.hid (HB.out.trans (dd.mono HB.out.size)); clear dd; replace A1 := Lib.hid A1; replace E1 := Lib.hid E1)
            | (go_at_call 8; refine (RM.out _ HB.out ((h.n : Int) + p) ((h.n : Int) + q)).mono ?_; clear RM; rintro e W6 ⟨r2, rfl, A2, E2, dd⟩; replace HB := Lib.hid (HB.out.trans (dd.mono HB.out.size)); replace A1 := Lib.hid (A1.out.below dd); clear dd; replace A2 := Lib.hid A2; replace E2 := Lib.hid E2)
            | (go_at_call 11; refine (Ints_any r1 r2 _ A1.out A2.out).mono ?_; rintro e W7 ⟨he, dd⟩; replace he := he.trans (congrArg (fun b => Ending.returned (Value.bool b)) (decide_eq_true (by rw [E1.out, E2.out, mL.out, List.nil_append, ← l2]; exact (rulesOf_mid h.l s.l t.l p q (by omega)).symm))); subst he; replace HB := Lib.hid (HB.out.trans (dd.mono HB.out.size)); clear dd))
          go_roundw
          case rel => exact ⟨q + 1, by omega, by go_num, HB⟩
          case measure => simp [intOf]; omega
        · go_wp2_with fail
          go_roundw
          case rel => exact ⟨p + 1, by omega, by go_num, HB⟩
          case measure => simp [intOf]; omega
    · have hps : p = s.n := by omega
      clear RM
      by_cases q1 : i < 0
      · go_wp2_with (first
          | (go_at_call 8; refine (RS.out _ HB.out i j).mono ?_; clear RS; rintro e W5 ⟨⟨ra, rn, rc, rl⟩, rfl, A1, E1, dd⟩; replace HB := Lib.hid (HB.out.trans (dd.mono HB.out.size)); clear dd; have e0 : rn = 0 := (by have k1 := A1.2.1; have k2 := E1.trans (rulesOf_not s.l i j (by omega)); simp only at k1 k2; rw [k2] at k1; exact k1.symm); subst e0; clear A1 E1; show _; unfold Sl.v; dsimp only)
          | (go_at_call 7; refine (lives_any _).mono ?_; rintro e W ⟨rfl, dd⟩; replace HB := Lib.hid (HB.out.trans (dd.mono HB.out.size)); clear dd))
        go_ret
        exact ⟨rfl, HV.out.trans (HB.out.mono HV.out.size)⟩
      · by_cases q2 : j < 0
        · go_wp2_with (first
          | (go_at_call 8; refine (RS.out _ HB.out i j).mono ?_; clear RS; rintro e W5 ⟨⟨ra, rn, rc, rl⟩, rfl, A1, E1, dd⟩; replace HB := Lib.hid (HB.out.trans (dd.mono HB.out.size)); clear dd; have e0 : rn = 0 := (by have k1 := A1.2.1; have k2 := E1.trans (rulesOf_not s.l i j (by omega)); simp only at k1 k2; rw [k2] at k1; exact k1.symm); subst e0; clear A1 E1; show _; unfold Sl.v; dsimp only)
          | (go_at_call 7; refine (lives_any _).mono ?_; rintro e W ⟨rfl, dd⟩; replace HB := Lib.hid (HB.out.trans (dd.mono HB.out.size)); clear dd))
          go_ret
          exact ⟨rfl, HV.out.trans (HB.out.mono HV.out.size)⟩
        · by_cases q3 : i ≥ j
          · go_wp2_with (first
          | (go_at_call 8; refine (RS.out _ HB.out i j).mono ?_; clear RS; rintro e W5 ⟨⟨ra, rn, rc, rl⟩, rfl, A1, E1, dd⟩; replace HB := Lib.hid (HB.out.trans (dd.mono HB.out.size)); clear dd; have e0 : rn = 0 := (by have k1 := A1.2.1; have k2 := E1.trans (rulesOf_not s.l i j (by omega)); simp only at k1 k2; rw [k2] at k1; exact k1.symm); subst e0; clear A1 E1; show _; unfold Sl.v; dsimp only)
          | (go_at_call 7; refine (lives_any _).mono ?_; rintro e W ⟨rfl, dd⟩; replace HB := Lib.hid (HB.out.trans (dd.mono HB.out.size)); clear dd))
            go_ret
            exact ⟨rfl, HV.out.trans (HB.out.mono HV.out.size)⟩
          · by_cases q4 : j ≥ s.n
            · go_wp2_with (first
          | (go_at_call 8; refine (RS.out _ HB.out i j).mono ?_; clear RS; rintro e W5 ⟨⟨ra, rn, rc, rl⟩, rfl, A1, E1, dd⟩; replace HB := Lib.hid (HB.out.trans (dd.mono HB.out.size)); clear dd; have e0 : rn = 0 := (by have k1 := A1.2.1; have k2 := E1.trans (rulesOf_not s.l i j (by omega)); simp only at k1 k2; rw [k2] at k1; exact k1.symm); subst e0; clear A1 E1; show _; unfold Sl.v; dsimp only)
          | (go_at_call 7; refine (lives_any _).mono ?_; rintro e W ⟨rfl, dd⟩; replace HB := Lib.hid (HB.out.trans (dd.mono HB.out.size)); clear dd))
              go_ret
              exact ⟨rfl, HV.out.trans (HB.out.mono HV.out.size)⟩
            · go_wp2_with fail
              obtain ⟨p', rfl⟩ := Int.eq_ofNat_of_zero_le (show 0 ≤ i by omega)
              obtain ⟨q', rfl⟩ := Int.eq_ofNat_of_zero_le (show 0 ≤ j by omega)
              have hsc : q' + 1 ≤ s.c := by omega
              have hse : ¬ s.c = p' := by omega
              have hpz : p' ≤ q' + 1 := by omega
              have hpy : (0 : Int) ≤ p' ∧ (p' : Int) ≤ q' + 1 := by omega
              refine wp_region_picks [0, 1, 2, 4, 5, 6, 7, 8, 9, 10, 11] [{ dst := some 90, op := Op.move (Operand.tmp 0), type := 22, pos := "law.go:95", after := #[], guard := none }, { dst := some 91, op := Op.move (Operand.tmp 3), type := 3, pos := "law.go:95", after := #[], guard := none }, { dst := some 92, op := Op.move (Operand.tmp 4), type := 3, pos := "law.go:95", after := #[], guard := none }, { dst := some 94, op := Op.move (Operand.tmp 0), type := 22, pos := "law.go:95", after := #[], guard := none }, { dst := some 95, op := Op.move (Operand.tmp 3), type := 3, pos := "law.go:95", after := #[], guard := none }, { dst := some 96, op := Op.move (Operand.tmp 4), type := 3, pos := "law.go:95", after := #[], guard := none }, { dst := some 97, op := Op.binOp BinOp.add 3 (Operand.tmp 96) (Operand.const (Value.int IntKind.i64 1)) 3, type := 3, pos := "law.go:95", after := #[{ on := 6, ground := Ground.data }], guard := none }, { dst := some 98, op := Op.slice 22 (Operand.tmp 94) (some (Operand.tmp 95)) (some (Operand.tmp 97)) none, type := 22, pos := "law.go:95", after := #[{ on := 4, ground := Ground.data }, { on := 5, ground := Ground.data }, { on := 7, ground := Ground.data }], guard := none }, { dst := some 99, op := Op.move (Operand.tmp 4), type := 3, pos := "law.go:95", after := #[], guard := none }, { dst := some 100, op := Op.move (Operand.tmp 3), type := 3, pos := "law.go:95", after := #[], guard := none }, { dst := some 101, op := Op.binOp BinOp.sub 3 (Operand.tmp 99) (Operand.tmp 100) 3, type := 3, pos := "law.go:95", after := #[{ on := 9, ground := Ground.data }, { on := 10, ground := Ground.data }], guard := none }] rfl (by kernel_rfl) (by decide) (by kernel_rfl) (by kernel_rfl) (by kernel_rfl) (fun _ _ _ _ _ h => h) ?_
              repeat go_big_quiet_step (fail)
              refine wpQuiet_nil ?_
              intro _ hw'
              obtain ⟨⟨dq, osq⟩, hw''⟩ := hw'
              subst hw''
              show wpAnyH Try.prog .any _ _ _ 7 _ _ _
              have bG := below_regrown wr dq osq
              generalize Sort.grow (redrawn wr dq) osq = G1 at *
              refine wpAnyH_all (rs := [3]) (by kernel_rfl) (by simp) ?_
              intro k hk
              simp only [List.mem_singleton] at hk
              subst hk
              refine wpOp_calls (f := 8) (args := #[.slice s.a s.n s.c, .int .i64 p', .int .i64 q']) rfl rfl ?hr ?_
              case hr => go_simp
              refine (RS.out _ (HB.out.trans (bG.mono HB.out.size)) p' q').mono ?_
              rintro e W5 ⟨r1, rfl, A1, E1, dd⟩
              refine ⟨_, rfl, regrown_of_below (bG.trans (dd.mono bG.size)), ?_⟩
              replace A1 := Lib.hid A1
              replace E1 := Lib.hid E1
              have HB5 := Lib.hid (HB.out.trans ((bG.trans (dd.mono bG.size)).mono HB.out.size))
              have bW := bG.trans (dd.mono bG.size)
              clear dd bG
              simp only [List.getElem_toArray, List.getElem_cons_succ, List.getElem_cons_zero, Act.put, List.setIfInBounds_toArray, List.set_cons_succ, List.set_cons_zero]
              refine wpAnyH_all (rs := [12]) (by kernel_rfl) (by simp) ?_
              intro k hk
              simp only [List.mem_singleton] at hk
              subst hk
              have HP := part_at (HS.out.below (HV.out.trans (HB5.out.mono HV.out.size))) (show p' < q' by omega) (show q' < s.n by omega)
              refine wpOp_calls (f := 8) (args := #[(partOf s p' q').v, .int .i64 0, .int .i64 ((q' : Int) - p')]) rfl rfl ?hr2 ?_
              case hr2 => go_simp; rfl
              refine (Rules_any (partOf s p' q') 0 ((q' : Int) - p') _ HP (by show q' + 1 - p' ≤ s.c - p'; omega)).mono ?_
              rintro e W6 ⟨r2, rfl, A2, E2, dd⟩
              refine ⟨_, rfl, regrown_of_below (bW.trans (dd.mono bW.size)), ?_⟩
              replace A1 := Lib.hid (A1.out.below dd)
              replace A2 := Lib.hid A2
              have HB6 := Lib.hid (HB5.out.trans (dd.mono HB5.out.size))
              have bX := bW.trans (dd.mono bW.size)
              have HEQ : r1.l = r2.l := by
                rw [E1.out, E2]
                exact (rulesOf_part s.l p' q' (by omega) (by omega)).symm
              clear dd bW HP
              simp only [List.getElem_toArray, List.getElem_cons_succ, List.getElem_cons_zero, Act.put, List.setIfInBounds_toArray, List.set_cons_succ, List.set_cons_zero]
              refine wpAnyH_all (rs := [13]) (by kernel_rfl) (by simp) ?_
              intro k hk
              simp only [List.mem_singleton] at hk
              subst hk
              refine wpOp_calls (f := 11) (args := #[r1.v, r2.v]) rfl rfl ?hr3 ?_
              case hr3 => go_simp
              refine (Ints_any r1 r2 _ A1.out A2.out).mono ?_
              rintro e W7 ⟨he, dd⟩
              replace he := he.trans (congrArg (fun b => Ending.returned (Value.bool b)) (decide_eq_true HEQ))
              refine ⟨_, he, regrown_of_below (bX.trans (dd.mono bX.size)), ?_⟩
              have HB7 := Lib.hid (HB6.out.trans (dd.mono HB6.out.size))
              have bY := bX.trans (dd.mono bX.size)
              clear dd bX A1 A2 E1 E2 HEQ he
              simp only [List.getElem_toArray, List.getElem_cons_succ, List.getElem_cons_zero, Act.put, List.setIfInBounds_toArray, List.set_cons_succ, List.set_cons_zero]
              refine wpAnyH_take (i := 14) (v := .bool true) rfl (by kernel_rfl) (by kernel_rfl) (by kernel_rfl) (fun _ _ _ h => h) (.inl ⟨rfl, fun V hV => rfl⟩) (regrown_of_below bY) ?_
              simp only [List.getElem_toArray, List.getElem_cons_succ, List.getElem_cons_zero, Act.put, List.setIfInBounds_toArray, List.set_cons_succ, List.set_cons_zero]
              refine wpAnyH_all (rs := [15]) (by kernel_rfl) (by simp) ?_
              intro k hk
              simp only [List.mem_singleton] at hk
              subst hk
              refine wpOp_calls (f := 7) (args := #[]) rfl rfl ?hr4 ?_
              case hr4 => go_simp
              refine (lives_any _).mono ?_
              rintro e W8 ⟨he, dd⟩
              refine ⟨_, he, regrown_of_below (bY.trans (dd.mono bY.size)), ?_⟩
              have HB8 := Lib.hid (HB7.out.trans (dd.mono HB7.out.size))
              have bZ := bY.trans (dd.mono bY.size)
              clear dd bY he
              simp only [List.getElem_toArray, List.getElem_cons_succ, List.getElem_cons_zero, Act.put, List.setIfInBounds_toArray, List.set_cons_succ, List.set_cons_zero]
              refine wpAnyH_take (i := 16) (v := .bool true) rfl (by kernel_rfl) (by kernel_rfl) (by kernel_rfl) (fun _ _ _ h => h) (.inl ⟨rfl, fun V hV => ?hr5⟩) (regrown_of_below bZ) ?_
              case hr5 => go_simp
              simp only [List.getElem_toArray, List.getElem_cons_succ, List.getElem_cons_zero, Act.put, List.setIfInBounds_toArray, List.set_cons_succ, List.set_cons_zero]
              refine wpAnyH_take (i := 17) (v := .bool true) rfl (by kernel_rfl) (by kernel_rfl) (by kernel_rfl) (fun _ _ _ h => h) (.inl ⟨rfl, fun V hV => rfl⟩) (regrown_of_below bZ) ?_
              simp only [List.getElem_toArray, List.getElem_cons_succ, List.getElem_cons_zero, Act.put, List.setIfInBounds_toArray, List.set_cons_succ, List.set_cons_zero]
              refine wpAnyH_done (by kernel_rfl) ?_ _
              go_wp2_with fail
              go_ret
              exact ⟨rfl, HV.out.trans (HB8.out.mono HV.out.size)⟩
end Go.Proofs.Ytdfapbfpmjbnhaa.Hand
