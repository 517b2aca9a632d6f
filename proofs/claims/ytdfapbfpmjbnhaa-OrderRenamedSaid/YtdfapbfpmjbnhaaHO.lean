/- DERIVED. DERIVED. Whether operations may be: a map in the walk. -/
import Derived.Test.YtdfapbfpmjbnhaaProg
import Derived.Test.YtdfapbfpmjbnhaaMBits
import Derived.Test.YtdfapbfpmjbnhaaMWalk
import Derived.Test.YtdfapbfpmjbnhaaMArg
import Derived.Test.YtdfapbfpmjbnhaaMRow
import Derived.Test.YtdfapbfpmjbnhaaMOpen
import Derived.Test.YtdfapbfpmjbnhaaMPart
import Derived.Test.YtdfapbfpmjbnhaaMGoMap
import Derived.Test.YtdfapbfpmjbnhaaHN
import Derived.Below
import Derived.Deep.Draws
import Derived.Deep.AppendLies
import Derived.Maps.AppendAt
import Derived.OwnWalk
import Derived.Laws.BytesArg
import Derived.Laws.MakeOwn
import Derived.Laws.OwnMore
import Derived.Deep.OwnRows
import Derived.Tactics
import Derived.Lib.ConvBytes
import Derived.Laws.Slices
import Derived.WalkKit
import Derived.KernelRfl
import Derived.RowKit3
import Derived.Deep.LoopGhost
import Derived.Deep.QuietTactic
import Derived.BigQuiet
import Derived.WideLaws
import Derived.Deep.DeepCutAuto
import Derived.Deep.CutBlock
import Derived.Deep.RegionHeld3
import Derived.Laws.Rows
import Derived.Lib.AppendStr
import Derived.ArgAppend
import Derived.Laws.IdiomCopy
import Derived.OrdersHeld
import Derived.Laws.BitsLemmas
import Derived.Laws.Bits64
import Derived.RowKit
import Derived.Outline
import Derived.Handy
import Derived.Lib.Hide
import Derived.Deep.Light
import Derived.Laws.CopyOwn
import Derived.Laws.AppendOwnNone
import Derived.RangeFuncNested
import Derived.RangeFuncBound
import Derived.RangeFuncCalls
import Derived.RangeFuncLeaves
import Derived.Shelf.Abstract
import Derived.Shelf.RegionOpen
import Derived.OwnWalkIn
import Derived.TacticsInMore
import Derived.LoopNIn
import Derived.LoopIn
import Derived.Maps.OwnIn
import Derived.Deep.WholeRow
namespace Go.Proofs.Ytdfapbfpmjbnhaa.Hand
open Go Go.RowKit Go.Proofs.Ytdfapbfpmjbnhaa.M
set_option linter.unusedVariables false
set_option linter.unusedSimpArgs false
attribute [local go_sem] Oper.semAt_some
theorem zero_bool (W : World) : (zeroValue 4).run Try.prog W = .ok (.bool false) W := by kernel_rfl
noncomputable def EB : Elem Bool := boolE Try.prog 4 Try.underlying4
def badOf (f : Int → Option Bool) (o : OpS) : Bool := decide (o.id < 0) || ((f o.id).isSome || ((o.fence && (o.load || o.store)) || ((!o.fence && !mayOf o) || ((o.pair != -1) && !((f o.pair).getD false)))))
def goodFrom : (Int → Option Bool) → List OpS → Bool
  | _, [] => true
  | f, o :: r => if badOf f o = true then false else goodFrom (mapPut f o.id o.load) r
def goodOf (l : List OpS) : Bool := goodFrom (fun _ => none) l
theorem good_drop (f : Int → Option Bool) (l : List OpS) (k : Nat) (h : k < l.length) : goodFrom f (l.drop k) = if badOf f l[k] = true then false else goodFrom (mapPut f l[k].id l[k].load) (l.drop (k + 1)) := by
  rw [List.drop_eq_getElem_cons h]; rfl
set_option maxRecDepth 100000 in
set_option maxHeartbeats 8000000 in
theorem Good_any (s : OSl) (w : World) (hS : s.At w) (hI : ∀ o ∈ s.l, (Lit.int .i64 o.id).wf = true ∧ (Lit.int .i64 o.pair).wf = true) : Calls Try.prog 15 #[s.v] w fun e w' => e = .returned (.bool (goodOf s.l)) ∧ Below w.heap.size w w' := by
  have HS := Lib.hid hS
  have hn := hS.m
  have hl := Lib.hid hS.n
  have hR := Lib.hid (show goodOf s.l = goodFrom (fun _ => none) (s.l.drop 0) from rfl)
  generalize goodOf s.l = R at *
  show Calls Try.prog 15 #[.slice s.a s.n s.c] w _
  replace hI := Lib.hid hI
  clear hS
  have hmm := @run_makeMap Try.prog
  go_enter Try.func15, Try.ntmps15
  go_wp2_with fail
  have HM := Lib.hid (MapAt.made (P := Try.prog) (k := 3) (q := .i64) (E := EB) (w := w))
  have HD : Hid (Below w.heap.size w (w.alloc (.map #[] 0))) := Lib.hid ((Below.refl w.heap.size w).alloc (Nat.le_refl _) _)
  generalize w.alloc (.map #[] 0) = X at *
  go_loopw [11] (fun i wr => ∃ k : Nat, k ≤ s.n ∧ i = .int .i64 k ∧ ∃ f, Hid (R = goodFrom f (s.l.drop k)) ∧ Hid (MapAt Try.prog 3 .i64 EB wr w.heap.size k f) ∧ Hid (Below w.heap.size w wr)) (fun i _ => s.n - (intOf i).toNat)
  case atStart => exact ⟨0, by omega, rfl, _, hR, HM, HD⟩
  case round =>
    obtain ⟨k, hk, rfl, f, hR, HM, HD⟩ := hrel
    by_cases hlt : k < s.n
    · obtain ⟨ad, e, h1, h2, h3, h4⟩ := (HS.out.below HD.out).cell hlt
      replace h3 := Lib.hid h3
      have hR2 := Lib.hid (hR.out.trans (good_drop f _ k h2))
      have w1 := Lib.hid (hI.out s.l[k] (List.getElem_mem _)).1
      have w2 := Lib.hid (hI.out s.l[k] (List.getElem_mem _)).2
      have HC := Lib.hid fun W (d : Below wr.heap.size wr W) => may_any s.l[k] W (h4.below d)
      clear h1 h4 hR
      generalize s.l[k] = o at *
      obtain ⟨met, hf⟩ : ∃ b, (f o.id).isSome = b := ⟨_, rfl⟩
      obtain ⟨mv, hv⟩ : ∃ b, EB.val (mapAt EB f o.id) = .bool b := ⟨_, rfl⟩
      obtain ⟨pl, hg⟩ : ∃ b, (f o.pair).getD false = b := ⟨_, rfl⟩
      obtain ⟨my, hy⟩ : ∃ b, mayOf o = b := ⟨_, rfl⟩
      have HBad := Lib.hid (show badOf f o = (decide (o.id < 0) || (met || ((o.fence && (o.load || o.store)) || ((!o.fence && !my) || ((o.pair != -1) && !pl))))) by rw [← hf, ← hg, ← hy]; rfl)
      replace hg := Lib.hid (show EB.val (mapAt EB f o.pair) = .bool pl by rw [← hg]; rfl)
      rw [hy] at HC
      replace hf := Lib.hid hf
      replace hv := Lib.hid hv
      clear hy
      rw [e]
      go_upto_region 6 with (first | (refine wpList_load_at rfl 29 _ rfl (ad.add (k * 17)) rfl o.cells _ h3.out Try.underlying29 rfl op_info ?_) | (refine wpList_store_row rfl 29 _ _ rfl (wr.heap.size) _ rfl rfl 29 _ (Blk.new _ _ _) op_info (OpS.len' _).symm (OpS.one _) ?_; (generalize hZ : World.setRow _ _ _ = Z; rw [World.setRow_alloc_new] at hZ; obtain ⟨b5, d5, _⟩ := arg_box hZ; have B := Lib.hid b5; have HD2 := Lib.hid (HD.out.trans (d5.mono HD.out.size)); have HM2 := Lib.hid (HM.out.below d5); have c0 := cId B.out; have c1 := cLoad B.out; have c2 := cStore B.out; have c3 := cFence B.out; have c13 : Z.cell? ⟨wr.heap.size, 13, none⟩ = some (.int .i64 o.pair) := B.out.cell 13; have D5 := Lib.hid d5; clear hZ b5 d5)) | (refine wpList_map_ok rfl _ _ 44 4 rfl Try.underlying3 Try.underlying44 (zero_bool _) rfl HM2.out o.id rfl w1.out ?_; rw [hv.out, hf.out]))
      try simp only [Act.put]
      replace e := Lib.hid e
      clear h3
      have KEY : Hid ((∀ W, Below Z.heap.size Z W → W.cell? ⟨wr.heap.size, 13, none⟩ = some (.int .i64 o.pair)) ∧ (∀ W, Below Z.heap.size Z W → W.cell? ⟨wr.heap.size, 0, none⟩ = some (.int .i64 o.id)) ∧ (∀ W, Below Z.heap.size Z W → W.cell? ⟨wr.heap.size, 1, none⟩ = some (.bool o.load))) := Lib.hid ⟨fun W d => (B.out.below d).cell 13, fun W d => cId (B.out.below d), fun W d => cLoad (B.out.below d)⟩
      generalize o.load = ld at *
      generalize o.store = st at *
      generalize o.fence = fe at *
      by_cases hid : o.id < 0
      · have hid1 : decide (o.id < 0) = true := by simpa using hid
        go_wp2_with fail
        go_ret
        exact ⟨by rw [hR2.out, HBad.out]; simp [hid1], HD2.out⟩
      · have hid1 : decide (o.id < 0) = false := by simpa using hid
        cases met
        · cases fe
          · cases my
            · go_wp2_with (refine wpList_load_in rfl 29 _ rfl ⟨wr.heap.size, 0, none⟩ rfl o.cells _ B.out.whole Try.underlying29 rfl op_info ?_)
              refine (HC.out _ D5.out).mono ?_
              clear HC
              rintro e W ⟨rfl, d6⟩
              replace HM2 := Lib.hid (HM2.out.below d6)
              replace HD2 := Lib.hid (HD2.out.trans (d6.mono HD2.out.size))
              have c13 := KEY.out.1 _ d6
              have c0 := KEY.out.2.1 _ d6
              have c1 := KEY.out.2.2 _ d6
              clear d6 KEY
              go_wp2_with fail
              go_ret
              exact ⟨by rw [hR2.out, HBad.out]; simp [], HD2.out⟩
            · by_cases hp : o.pair = -1
              · have hp1 : (o.pair != -1) = false := by simp [hp]
                go_wp2_with (refine wpList_load_in rfl 29 _ rfl ⟨wr.heap.size, 0, none⟩ rfl o.cells _ B.out.whole Try.underlying29 rfl op_info ?_)
                refine (HC.out _ D5.out).mono ?_
                clear HC
                rintro e W ⟨rfl, d6⟩
                replace HM2 := Lib.hid (HM2.out.below d6)
                replace HD2 := Lib.hid (HD2.out.trans (d6.mono HD2.out.size))
                have c13 := KEY.out.1 _ d6
                have c0 := KEY.out.2.1 _ d6
                have c1 := KEY.out.2.2 _ d6
                clear d6 KEY
                go_upto_region 8 with fail
                go_wp2_with (refine wpList_map_put rfl _ _ _ 44 4 rfl Try.underlying3 Try.underlying44 rfl HM2.out (by unfold maxLen; omega) o.id rfl w1.out _ rfl trivial ?_; intro w5 hm5 hg5)
                go_roundw
                case rel => exact ⟨k + 1, by omega, by go_num, _, Lib.hid (by rw [hR2.out, HBad.out]; simp [hid1, hp]), Lib.hid hm5, Lib.hid (HD2.out.grown hg5 HD2.out.size (fun q e => by injection e with e; omega))⟩
                case measure => simp [intOf]; omega
              · have hp1 : (o.pair != -1) = true := by simpa using hp
                cases pl
                · go_wp2_with (refine wpList_load_in rfl 29 _ rfl ⟨wr.heap.size, 0, none⟩ rfl o.cells _ B.out.whole Try.underlying29 rfl op_info ?_)
                  refine (HC.out _ D5.out).mono ?_
                  clear HC
                  rintro e W ⟨rfl, d6⟩
                  replace HM2 := Lib.hid (HM2.out.below d6)
                  replace HD2 := Lib.hid (HD2.out.trans (d6.mono HD2.out.size))
                  have c13 := KEY.out.1 _ d6
                  have c0 := KEY.out.2.1 _ d6
                  have c1 := KEY.out.2.2 _ d6
                  clear d6 KEY
                  go_wp2_with (refine wpList_map_get rfl _ _ 44 4 rfl Try.underlying3 Try.underlying44 (zero_bool _) rfl HM2.out o.pair rfl w2.out ?_; rw [hg.out])
                  go_ret
                  exact ⟨by rw [hR2.out, HBad.out]; simp [hid1, hp], HD2.out⟩
                · go_wp2_with (refine wpList_load_in rfl 29 _ rfl ⟨wr.heap.size, 0, none⟩ rfl o.cells _ B.out.whole Try.underlying29 rfl op_info ?_)
                  refine (HC.out _ D5.out).mono ?_
                  clear HC
                  rintro e W ⟨rfl, d6⟩
                  replace HM2 := Lib.hid (HM2.out.below d6)
                  replace HD2 := Lib.hid (HD2.out.trans (d6.mono HD2.out.size))
                  have c13 := KEY.out.1 _ d6
                  have c0 := KEY.out.2.1 _ d6
                  have c1 := KEY.out.2.2 _ d6
                  clear d6 KEY
                  go_upto_region 8 with (refine wpList_map_get rfl _ _ 44 4 rfl Try.underlying3 Try.underlying44 (zero_bool _) rfl HM2.out o.pair rfl w2.out ?_; rw [hg.out])
                  go_wp2_with (refine wpList_map_put rfl _ _ _ 44 4 rfl Try.underlying3 Try.underlying44 rfl HM2.out (by unfold maxLen; omega) o.id rfl w1.out _ rfl trivial ?_; intro w5 hm5 hg5)
                  go_roundw
                  case rel => exact ⟨k + 1, by omega, by go_num, _, Lib.hid (by rw [hR2.out, HBad.out]; simp [hid1, hp]), Lib.hid hm5, Lib.hid (HD2.out.grown hg5 HD2.out.size (fun q e => by injection e with e; omega))⟩
                  case measure => simp [intOf]; omega
          · cases ld
            · cases st
              · by_cases hp : o.pair = -1
                · have hp1 : (o.pair != -1) = false := by simp [hp]
                  go_upto_region 8 with fail
                  go_wp2_with (refine wpList_map_put rfl _ _ _ 44 4 rfl Try.underlying3 Try.underlying44 rfl HM2.out (by unfold maxLen; omega) o.id rfl w1.out _ rfl trivial ?_; intro w5 hm5 hg5)
                  go_roundw
                  case rel => exact ⟨k + 1, by omega, by go_num, _, Lib.hid (by rw [hR2.out, HBad.out]; simp [hid1, hp]), Lib.hid hm5, Lib.hid (HD2.out.grown hg5 HD2.out.size (fun q e => by injection e with e; omega))⟩
                  case measure => simp [intOf]; omega
                · have hp1 : (o.pair != -1) = true := by simpa using hp
                  cases pl
                  · go_wp2_with (refine wpList_map_get rfl _ _ 44 4 rfl Try.underlying3 Try.underlying44 (zero_bool _) rfl HM2.out o.pair rfl w2.out ?_; rw [hg.out])
                    go_ret
                    exact ⟨by rw [hR2.out, HBad.out]; simp [hid1, hp], HD2.out⟩
                  · go_upto_region 8 with (refine wpList_map_get rfl _ _ 44 4 rfl Try.underlying3 Try.underlying44 (zero_bool _) rfl HM2.out o.pair rfl w2.out ?_; rw [hg.out])
                    go_wp2_with (refine wpList_map_put rfl _ _ _ 44 4 rfl Try.underlying3 Try.underlying44 rfl HM2.out (by unfold maxLen; omega) o.id rfl w1.out _ rfl trivial ?_; intro w5 hm5 hg5)
                    go_roundw
                    case rel => exact ⟨k + 1, by omega, by go_num, _, Lib.hid (by rw [hR2.out, HBad.out]; simp [hid1, hp]), Lib.hid hm5, Lib.hid (HD2.out.grown hg5 HD2.out.size (fun q e => by injection e with e; omega))⟩
                    case measure => simp [intOf]; omega
              · go_wp2_with fail
                go_ret
                exact ⟨by rw [hR2.out, HBad.out]; simp [], HD2.out⟩
            · go_wp2_with fail
              go_ret
              exact ⟨by rw [hR2.out, HBad.out]; simp [], HD2.out⟩
        · go_wp2_with fail
          go_ret
          exact ⟨by rw [hR2.out, HBad.out]; simp [], HD2.out⟩
    · go_wp2_with fail
      go_ret
      exact ⟨by rw [hR.out, List.drop_of_length_le (by rw [hl.out]; omega)]; rfl, HD.out⟩
end Go.Proofs.Ytdfapbfpmjbnhaa.Hand
