/- DERIVED. DERIVED. Arguments that are operations; the law's and the reference's small helpers. -/
import Derived.Test.YtdfapbfpmjbnhaaProg
import Derived.Test.YtdfapbfpmjbnhaaMBits
import Derived.Test.YtdfapbfpmjbnhaaMWalk
import Derived.Test.YtdfapbfpmjbnhaaMArg
import Derived.Test.YtdfapbfpmjbnhaaMRow
import Derived.Test.YtdfapbfpmjbnhaaMOpen
import Derived.Test.YtdfapbfpmjbnhaaMPart
import Derived.Test.YtdfapbfpmjbnhaaMGoMap
import Derived.Test.YtdfapbfpmjbnhaaHH
import Derived.Below
import Derived.Deep.Draws
import Derived.Deep.AppendLies
import Derived.Maps.AppendAt
import Derived.OwnWalk
import Derived.Laws.BytesArg
import Derived.Laws.MakeOwn
import Derived.Laws.OwnMore
import Derived.Deep.OwnRows
import Derived.Tactics
import Derived.Lib.ConvBytes
import Derived.Laws.Slices
import Derived.WalkKit
import Derived.KernelRfl
import Derived.RowKit3
import Derived.Deep.LoopGhost
import Derived.Deep.QuietTactic
import Derived.BigQuiet
import Derived.WideLaws
import Derived.Deep.DeepCutAuto
import Derived.Deep.CutBlock
import Derived.Deep.RegionHeld3
import Derived.Laws.Rows
import Derived.Lib.AppendStr
import Derived.ArgAppend
import Derived.Laws.IdiomCopy
import Derived.OrdersHeld
import Derived.Laws.BitsLemmas
import Derived.Laws.Bits64
import Derived.RowKit
import Derived.Outline
import Derived.Handy
import Derived.Lib.Hide
import Derived.Deep.Light
import Derived.Laws.CopyOwn
import Derived.Laws.AppendOwnNone
import Derived.RangeFuncNested
import Derived.RangeFuncBound
import Derived.RangeFuncCalls
import Derived.RangeFuncLeaves
import Derived.Shelf.Abstract
import Derived.Shelf.RegionOpen
import Derived.OwnWalkIn
import Derived.TacticsInMore
import Derived.LoopNIn
import Derived.LoopIn
import Derived.Maps.OwnIn
import Derived.Deep.WholeRow
namespace Go.Proofs.Ytdfapbfpmjbnhaa.Hand
open Go Go.RowKit Go.Proofs.Ytdfapbfpmjbnhaa.M
set_option linter.unusedVariables false
set_option linter.unusedSimpArgs false
attribute [local go_sem] Oper.semAt_some
section
variable {H : Type} {enc : TypeId × Value → H} {P : Program} {W : World} {base fuel : Nat} {spare : Nat → Bool} {held : Bool} {t e : TypeId}
theorem ints_slice {v : Value} {x : DataW H × List MemPlace} (ht : P.underlying t = some (.slice e)) (he : P.underlying e = some (.int .i64)) (hc : P.cellsOf e = 1) (h : DataW.trod enc P W base spare held fuel t [v] = some x) : ∃ s : Sl, v = s.v ∧ s.At W := by
  rcases slice_cells ht h with h0 | ⟨a, n, c, m, h0, h1, h2, h3⟩
  · exact ⟨⟨none, 0, 0, []⟩, h0, fun h => absurd rfl h, rfl, by simp, fun x hx => by cases hx⟩
  · have key : ∀ i, i < n → ∃ z : Int, W.cell? (a.add i) = some (.int .i64 z) ∧ (Lit.int .i64 z).wf = true := by
      intro i hi
      obtain ⟨cs, y, hl, hg, ht'⟩ := h3 i hi
      rw [hc] at hl hg
      obtain ⟨c0, rfl⟩ : ∃ c0, cs = [c0] := by
        match cs, hl with
        | [c0], _ => exact ⟨c0, rfl⟩
      obtain ⟨z, hz, _, wz⟩ := DataW.trod_int he ht'
      have hz' : c0 = .int .i64 z := by simpa using hz
      refine ⟨z, ?_, wz⟩
      have := hg 0 _ rfl
      rw [Nat.mul_one, Nat.add_zero, hz'] at this
      exact this
    obtain ⟨l, hl, hq⟩ := choose_list (Q := fun i z => W.cell? (a.add i) = some (.int .i64 z) ∧ (Lit.int .i64 z).wf = true) n key
    refine ⟨⟨some a, n, c, l⟩, h0, fun hne => ⟨a, rfl, ?_, fun k x hk => (hq k x hk).1⟩, hl, by unfold maxLen at h2; show n ≤ _; omega, fun x hx => ?_⟩
    · have hp : 0 < l.length := List.length_pos_iff.2 hne
      have h4 := (hq 0 _ (List.getElem?_eq_getElem hp)).1
      have := lt_of_cell h4
      rwa [block_add] at this
    · obtain ⟨k, hk, e⟩ := List.mem_iff_getElem.1 hx
      exact (hq k x (by rw [List.getElem?_eq_getElem hk, e])).2
theorem ints_field {fs : Array Field} {cs : List Value} {x : DataW H × List MemPlace} (ht : P.underlying t = some (.struct fs)) (h : DataW.trod enc P W base spare held fuel t cs = some x) (j : Nat) (f : Field) (hf : fs[j]? = some f) (hk : P.underlying f.type = some (.slice e)) (he : P.underlying e = some (.int .i64)) (h1 : P.cellsOf e = 1) {c : Value} (hc : (cs.drop f.offset).take (P.cellsOf f.type) = [c]) :
    ∃ s : Sl, c = s.v ∧ s.At W := by
  obtain ⟨n, y, hy⟩ := any_field ht h j f hf
  rw [hc] at hy
  exact ints_slice hk he h1 hy
end
theorem list17 {cs : List Value} (h : cs.length = 17) : ∃ b0 b1 b2 b3 b4 b5 b6 b7 b8 b9 b10 b11 b12 b13 b14 b15 b16, cs = [b0, b1, b2, b3, b4, b5, b6, b7, b8, b9, b10, b11, b12, b13, b14, b15, b16] := by
  match cs, h with
  | [b0, b1, b2, b3, b4, b5, b6, b7, b8, b9, b10, b11, b12, b13, b14, b15, b16], _ => exact ⟨b0, b1, b2, b3, b4, b5, b6, b7, b8, b9, b10, b11, b12, b13, b14, b15, b16, rfl⟩
set_option maxRecDepth 100000 in
set_option maxHeartbeats 4000000 in
theorem ops_open {H : Type} {enc : TypeId × Value → H} {W : World} {base b2 : Nat} {spare : Nat → Bool} {held : Bool} {v : Value} {d : DataW H} {ps : List MemPlace} {r} (hv : Value.okWide Try.prog W r b2 22 v)
    (h : DataW.Trod enc Try.prog W base spare held 22 v d ps) : ∃ s : OSl, v = s.v ∧ s.At W ∧ s.n ≤ s.c ∧ (s.a = none → s.n = 0 ∧ s.c = 0) := by
  obtain ⟨A, n, c, rfl⟩ := Go.WideShapes.okWide_slice Try.underlying22 hv
  obtain ⟨fu, hf⟩ := h
  simp only [Value.cells] at hf
  rcases slice_cells Try.underlying22 hf with h0 | ⟨a, n', c', m, h0, h1, h2, h3⟩
  · exact ⟨⟨none, 0, 0, []⟩, h0, ⟨fun h => absurd rfl h, rfl, by simp, fun o ho => by cases ho⟩, Nat.le_refl _, fun _ => ⟨rfl, rfl⟩⟩
  · injection h0 with a1 a2 a3
    subst a1 a2 a3
    have key : ∀ i, i < n → ∃ s : OpS, CellsAt W (a.add (i * 17)) s.cells ∧ s.At W := by
      intro i hi
      obtain ⟨cs, y, hl, hc, ht⟩ := h3 i hi
      rw [show Try.prog.cellsOf _ = 17 from by kernel_rfl] at hl hc
      obtain ⟨b0, b1, b2, b3, b4, b5, b6, b7, b8, b9, b10, b11, b12, b13, b14, b15, b16, rfl⟩ := list17 hl
      obtain ⟨z0, rfl, w0⟩ := int_field Try.underlying29 ht 0 _ rfl Try.underlying3 (by rw [show Try.prog.cellsOf _ = 1 from by kernel_rfl]; rfl)
      obtain ⟨z1, rfl⟩ := bool_field Try.underlying29 ht 1 _ rfl Try.underlying4 (by rw [show Try.prog.cellsOf _ = 1 from by kernel_rfl]; rfl)
      obtain ⟨z2, rfl⟩ := bool_field Try.underlying29 ht 2 _ rfl Try.underlying4 (by rw [show Try.prog.cellsOf _ = 1 from by kernel_rfl]; rfl)
      obtain ⟨z3, rfl⟩ := bool_field Try.underlying29 ht 3 _ rfl Try.underlying4 (by rw [show Try.prog.cellsOf _ = 1 from by kernel_rfl]; rfl)
      obtain ⟨z4, rfl, w4⟩ := int_field Try.underlying29 ht 4 _ rfl Try.underlying26 (by rw [show Try.prog.cellsOf _ = 1 from by kernel_rfl]; rfl)
      obtain ⟨z5, rfl, w5⟩ := int_field Try.underlying29 ht 5 _ rfl Try.underlying3 (by rw [show Try.prog.cellsOf _ = 1 from by kernel_rfl]; rfl)
      obtain ⟨z6, rfl⟩ := bool_field Try.underlying29 ht 6 _ rfl Try.underlying4 (by rw [show Try.prog.cellsOf _ = 1 from by kernel_rfl]; rfl)
      obtain ⟨z7, rfl⟩ := bool_field Try.underlying29 ht 7 _ rfl Try.underlying4 (by rw [show Try.prog.cellsOf _ = 1 from by kernel_rfl]; rfl)
      obtain ⟨z8, rfl, w8⟩ := int_field Try.underlying29 ht 8 _ rfl Try.underlying3 (by rw [show Try.prog.cellsOf _ = 1 from by kernel_rfl]; rfl)
      obtain ⟨z9, rfl, w9⟩ := int_field Try.underlying29 ht 9 _ rfl Try.underlying3 (by rw [show Try.prog.cellsOf _ = 1 from by kernel_rfl]; rfl)
      obtain ⟨z10, rfl, w10⟩ := int_field Try.underlying29 ht 10 _ rfl Try.underlying26 (by rw [show Try.prog.cellsOf _ = 1 from by kernel_rfl]; rfl)
      obtain ⟨z11, rfl, w11⟩ := int_field Try.underlying29 ht 11 _ rfl Try.underlying26 (by rw [show Try.prog.cellsOf _ = 1 from by kernel_rfl]; rfl)
      obtain ⟨z12, rfl, w12⟩ := ints_field Try.underlying29 ht 12 _ rfl Try.underlying27 Try.underlying3 (by kernel_rfl) (by rw [show Try.prog.cellsOf _ = 1 from by kernel_rfl]; rfl)
      obtain ⟨z13, rfl, w13⟩ := int_field Try.underlying29 ht 13 _ rfl Try.underlying3 (by rw [show Try.prog.cellsOf _ = 1 from by kernel_rfl]; rfl)
      obtain ⟨z14, rfl, w14⟩ := ints_field Try.underlying29 ht 14 _ rfl Try.underlying27 Try.underlying3 (by kernel_rfl) (by rw [show Try.prog.cellsOf _ = 1 from by kernel_rfl]; rfl)
      obtain ⟨z15, rfl, w15⟩ := ints_field Try.underlying29 ht 15 _ rfl Try.underlying27 Try.underlying3 (by kernel_rfl) (by rw [show Try.prog.cellsOf _ = 1 from by kernel_rfl]; rfl)
      obtain ⟨z16, rfl, w16⟩ := ints_field Try.underlying29 ht 16 _ rfl Try.underlying27 Try.underlying3 (by kernel_rfl) (by rw [show Try.prog.cellsOf _ = 1 from by kernel_rfl]; rfl)
      refine ⟨⟨z0, z1, z2, z3, z4, z5, z6, z7, z8, z9, z10, z11, z12, z13, z14, z15, z16⟩, fun f v hv => ?_, ⟨w12, w14, w15, w16, U64.of_wf w4, I64.of_wf w5⟩⟩
      rw [addr_add]
      exact hc f v (by rw [← hv]; exact Array.getElem?_toList)
    obtain ⟨l, hl, hq⟩ := choose_list n key
    refine ⟨⟨some a, n, c, l⟩, rfl, ⟨fun hne => ⟨a, rfl, ?_, fun k i hk => (hq k i hk).1⟩, hl, by unfold maxLen at h2; show n ≤ _; omega, fun i hi => ?_⟩, h1, fun h => by cases h⟩
    · have hp : 0 < l.length := List.length_pos_iff.2 hne
      have h4 := (hq 0 _ (List.getElem?_eq_getElem hp)).1 0 _ rfl
      have := lt_of_cell h4
      rwa [block_add, block_add] at this
    · obtain ⟨k, hk, e⟩ := List.mem_iff_getElem.1 hi
      exact (hq k i (by rw [List.getElem?_eq_getElem hk, e])).2
set_option maxHeartbeats 4000000 in
theorem In_any (s : Sl) (n : Int) (w : World) (h : s.At w) : Calls Try.prog 9 #[s.v, .int .i64 n] w fun e w' => e = .returned (.bool (inOf s.l n)) ∧ w = w' := by
  have HS := Lib.hid h
  have h3 := h.2.2.1
  have hl := Lib.hid h.2.1
  have hR := Lib.hid (show inOf s.l n = (s.l.drop 0).any (· == n) from rfl)
  generalize inOf s.l n = R at *
  clear h
  obtain ⟨A, N, C, L⟩ := s
  unfold Sl.v
  dsimp only at *
  go_enter Try.func9, Try.ntmps9
  go_wp2_with fail
  go_loop [5] (fun i => ∃ k : Nat, k ≤ N ∧ i = .int .i64 k ∧ Hid (R = (L.drop k).any (· == n))) (fun i => N - (intOf i).toNat)
  case atStart => exact ⟨0, by omega, rfl, hR⟩
  case round =>
    obtain ⟨k, hk, rfl, hR⟩ := hrel
    by_cases hlt : k < N
    · obtain ⟨ad, e, hk2, hc⟩ := sl_cell HS.out hlt
      dsimp only at e hk2 hc
      subst e
      have hR2 := Lib.hid (hR.out.trans (any_drop _ L k hk2))
      clear hR
      generalize L[k] = x at *
      by_cases hx : x = n
      · subst hx
        go_wp2_with fail
        go_ret
        exact ⟨by rw [hR2.out]; simp, rfl⟩
      · have dx : (x == n) = false := by simpa using hx
        rw [dx, Bool.false_or] at hR2
        go_wp2_with fail
        go_round
        case rel => exact ⟨k + 1, by omega, by go_num, hR2⟩
        case measure => simp [intOf]; omega
    · go_wp2_with fail
      go_ret
      exact ⟨by rw [hR.out, List.drop_of_length_le (by rw [hl.out]; omega)]; rfl, rfl⟩
theorem same_of {l m : List Int} (h : l.length = m.length) (hk : ∀ j, j < l.length → l[j]? = m[j]?) : l = m := by
  apply List.ext_getElem? 
  intro j
  rcases Nat.lt_or_ge j l.length with hj | hj
  · exact hk j hj
  · rw [List.getElem?_eq_none hj, List.getElem?_eq_none (by omega)]
set_option maxHeartbeats 4000000 in
theorem Ints_any (s r : Sl) (w : World) (hS : s.At w) (hR : r.At w) : Calls Try.prog 11 #[s.v, r.v] w fun e w' => e = .returned (.bool (decide (s.l = r.l))) ∧ Below w.heap.size w w' := by
  have HS := Lib.hid hS
  have HR := Lib.hid hR
  have h3 := hS.2.2.1
  have h4 := hR.2.2.1
  have hl := Lib.hid hS.2.1
  have hl2 := Lib.hid hR.2.1
  have HD := Lib.hid (Below.refl w.heap.size w)
  have HV := Lib.hid (show ∀ b, decide (s.l = r.l) = b ↔ decide (s.l = r.l) = b from fun _ => Iff.rfl)
  have hv : ∃ R, decide (s.l = r.l) = R := ⟨_, rfl⟩
  obtain ⟨R, hv⟩ := hv
  rw [hv]
  have hv := Lib.hid hv
  clear hS hR HV
  obtain ⟨A, N, C, L⟩ := s
  obtain ⟨A', N', C', L'⟩ := r
  unfold Sl.v
  dsimp only at *
  by_cases hn : N = N'
  · subst hn
    go_enter Try.func11, Try.ntmps11
    go_wp2_with fail
    go_loopw [5] (fun i wr => ∃ k : Nat, k ≤ N ∧ i = .int .i64 k ∧ Hid (∀ j, j < k → L[j]? = L'[j]?) ∧ Hid (Below w.heap.size w wr)) (fun i _ => N - (intOf i).toNat)
    case atStart => exact ⟨0, by omega, rfl, Lib.hid (fun j hj => by omega), HD⟩
    case round =>
      obtain ⟨k, hk, rfl, hE, HD⟩ := hrel
      by_cases hlt : k < N
      · obtain ⟨ad, e, hk2, hc⟩ := sl_cell (HS.out.below HD.out) hlt
        obtain ⟨ad', e', hk2', hc'⟩ := sl_cell (HR.out.below HD.out) hlt
        dsimp only at e hk2 hc e' hk2' hc'
        subst e e'
        have q1 := Lib.hid (List.getElem?_eq_getElem hk2)
        have q2 := Lib.hid (List.getElem?_eq_getElem hk2')
        generalize L[k] = x at *
        generalize L'[k] = y at *
        have hnk : ¬ N ≤ k := by omega
        have c1 := cell_regrown hc
        have c2 := cell_regrown hc'
        clear hc hc'
        by_cases hx : x = y
        · subst hx
          go_wp2_with fail
          refine wp_region_quiet_below (by kernel_rfl) (by kernel_rfl) ?_
          repeat go_big_quiet_step (fail)
          refine wpQuiet_nil ?_
          intro _ hw'
          obtain ⟨⟨dq, osq⟩, hw''⟩ := hw'
          subst hw''
          have HD2 := Lib.hid (HD.out.trans ((below_regrown wr dq osq).mono HD.out.size))
          clear c1 c2
          generalize Sort.grow (redrawn wr dq) osq = G at *
          go_wp2_with fail
          go_roundw
          case rel =>
            exact ⟨k + 1, by omega, by go_num, Lib.hid (fun j hj => by
              rcases Nat.lt_or_ge j k with h | h
              · exact hE.out j h
              · rw [show j = k by omega, q1.out, q2.out]), HD2⟩
          case measure => simp [intOf]; omega
        · have dx : (x == y) = false := by simpa using hx
          have hx := Lib.hid hx
          go_wp2_with fail
          refine wp_region_quiet_below (by kernel_rfl) (by kernel_rfl) ?_
          repeat go_big_quiet_step (fail)
          refine wpQuiet_nil ?_
          intro _ hw'
          obtain ⟨⟨dq, osq⟩, hw''⟩ := hw'
          subst hw''
          have HD2 := Lib.hid (HD.out.trans ((below_regrown wr dq osq).mono HD.out.size))
          clear c1 c2
          generalize Sort.grow (redrawn wr dq) osq = G at *
          go_wp2_with fail
          go_ret
          exact ⟨by rw [← hv.out, decide_eq_false (fun e => hx.out (by have h1 := q1.out; rw [e, q2.out] at h1; exact (Option.some.inj h1).symm))]; rfl, HD2.out⟩
      · go_wp2_with fail
        go_ret
        exact ⟨by rw [← hv.out, decide_eq_true (same_of (by rw [hl.out, hl2.out]) (fun j hj => hE.out j (by have := hl.out; omega)))]; rfl, HD.out⟩
  · go_enter Try.func11, Try.ntmps11
    go_wp2_with fail
    go_ret
    exact ⟨by rw [← hv.out, decide_eq_false (fun e => hn (by rw [← hl.out, ← hl2.out, e]))]; rfl, HD.out⟩
/-- Few enough. -/
def heavyOp (o : OpS) : Bool := decide (20 < o.frm.n) || decide (60 < o.addrs.n) || decide (60 < o.datas.n) || decide (60 < o.ctrls.n)
def lightOf (s : OSl) : Bool := decide (s.n ≤ 60) && !(s.l.any heavyOp)
set_option maxRecDepth 100000 in
set_option maxHeartbeats 4000000 in
theorem Light_any (s : OSl) (w : World) (hS : s.At w) : Calls Try.prog 6 #[s.v] w fun e w' => e = .returned (.bool (lightOf s)) ∧ Below w.heap.size w w' := by
  have HS := Lib.hid hS
  have hn := hS.m
  have hl := Lib.hid hS.n
  have HD := Lib.hid (Below.refl w.heap.size w)
  have hR := Lib.hid (show lightOf s = (decide (s.n ≤ 60) && !((s.l.drop 0).any heavyOp)) from rfl)
  generalize lightOf s = R at *
  show Calls Try.prog 6 #[.slice s.a s.n s.c] w _
  clear hS
  by_cases h60 : s.n ≤ 60
  · have g6 : ¬ 60 < s.n := by omega
    go_enter Try.func6, Try.ntmps6
    go_wp2_with fail
    go_loopw [10] (fun i wr => ∃ k : Nat, k ≤ s.n ∧ i = .int .i64 k ∧ Hid (R = !((s.l.drop k).any heavyOp)) ∧ Hid (Below w.heap.size w wr)) (fun i _ => s.n - (intOf i).toNat)
    case atStart => exact ⟨0, by omega, rfl, Lib.hid (by rw [hR.out, decide_eq_true h60, Bool.true_and]), HD⟩
    case round =>
      obtain ⟨k, hk, rfl, hR, HD⟩ := hrel
      by_cases hlt : k < s.n
      · obtain ⟨ad, e, h1, h2, h3, h4⟩ := (HS.out.below HD.out).cell hlt
        replace h3 := Lib.hid h3
        have hR2 := Lib.hid (hR.out.trans (congrArg (fun b => !b) (any_drop_o heavyOp _ k h2)))
        have hW := Lib.hid (show heavyOp s.l[k] = (decide (20 < s.l[k].frm.n) || decide (60 < s.l[k].addrs.n) || decide (60 < s.l[k].datas.n) || decide (60 < s.l[k].ctrls.n)) from rfl)
        clear h1 h4 hR
        generalize s.l[k] = o at *
        rw [e]
        have key : ∀ b X, Blk X b o.cells 29 → X.cell? ⟨b, 12, none⟩ = some (.slice o.frm.a o.frm.n o.frm.c) ∧ X.cell? ⟨b, 14, none⟩ = some (.slice o.addrs.a o.addrs.n o.addrs.c) ∧ X.cell? ⟨b, 15, none⟩ = some (.slice o.datas.a o.datas.n o.datas.c) ∧ X.cell? ⟨b, 16, none⟩ = some (.slice o.ctrls.a o.ctrls.n o.ctrls.c) := fun b X B => ⟨B.cell 12, B.cell 14, B.cell 15, B.cell 16⟩
        by_cases f0 : 20 < o.frm.n
        · go_wp2_with (first | (refine wpList_load_at rfl 29 _ rfl (ad.add (k * 17)) rfl o.cells _ h3.out Try.underlying29 rfl op_info ?_) | (refine wpList_store_row rfl 29 _ _ rfl (wr.heap.size) _ rfl rfl 29 _ (Blk.new _ _ _) op_info (OpS.len' _).symm (OpS.one _) ?_; (generalize hZ : World.setRow _ _ _ = Z; rw [World.setRow_alloc_new] at hZ; obtain ⟨bZ, dZ, sZ⟩ := arg_box hZ; obtain ⟨c1, c2, c3, c4⟩ := key _ _ bZ; have HD2 := Lib.hid (HD.out.trans (dZ.mono HD.out.size)); clear hZ bZ dZ sZ)))
          go_ret
          exact ⟨by rw [hR2.out, hW.out]; simp [f0], HD2.out⟩
        · by_cases f1 : 60 < o.addrs.n
          · go_wp2_with (first | (refine wpList_load_at rfl 29 _ rfl (ad.add (k * 17)) rfl o.cells _ h3.out Try.underlying29 rfl op_info ?_) | (refine wpList_store_row rfl 29 _ _ rfl (wr.heap.size) _ rfl rfl 29 _ (Blk.new _ _ _) op_info (OpS.len' _).symm (OpS.one _) ?_; (generalize hZ : World.setRow _ _ _ = Z; rw [World.setRow_alloc_new] at hZ; obtain ⟨bZ, dZ, sZ⟩ := arg_box hZ; obtain ⟨c1, c2, c3, c4⟩ := key _ _ bZ; have HD2 := Lib.hid (HD.out.trans (dZ.mono HD.out.size)); clear hZ bZ dZ sZ)))
            go_ret
            exact ⟨by rw [hR2.out, hW.out]; simp [f0, f1], HD2.out⟩
          · by_cases f2 : 60 < o.datas.n
            · go_wp2_with (first | (refine wpList_load_at rfl 29 _ rfl (ad.add (k * 17)) rfl o.cells _ h3.out Try.underlying29 rfl op_info ?_) | (refine wpList_store_row rfl 29 _ _ rfl (wr.heap.size) _ rfl rfl 29 _ (Blk.new _ _ _) op_info (OpS.len' _).symm (OpS.one _) ?_; (generalize hZ : World.setRow _ _ _ = Z; rw [World.setRow_alloc_new] at hZ; obtain ⟨bZ, dZ, sZ⟩ := arg_box hZ; obtain ⟨c1, c2, c3, c4⟩ := key _ _ bZ; have HD2 := Lib.hid (HD.out.trans (dZ.mono HD.out.size)); clear hZ bZ dZ sZ)))
              go_ret
              exact ⟨by rw [hR2.out, hW.out]; simp [f0, f1, f2], HD2.out⟩
            · by_cases f3 : 60 < o.ctrls.n
              · go_wp2_with (first | (refine wpList_load_at rfl 29 _ rfl (ad.add (k * 17)) rfl o.cells _ h3.out Try.underlying29 rfl op_info ?_) | (refine wpList_store_row rfl 29 _ _ rfl (wr.heap.size) _ rfl rfl 29 _ (Blk.new _ _ _) op_info (OpS.len' _).symm (OpS.one _) ?_; (generalize hZ : World.setRow _ _ _ = Z; rw [World.setRow_alloc_new] at hZ; obtain ⟨bZ, dZ, sZ⟩ := arg_box hZ; obtain ⟨c1, c2, c3, c4⟩ := key _ _ bZ; have HD2 := Lib.hid (HD.out.trans (dZ.mono HD.out.size)); clear hZ bZ dZ sZ)))
                go_ret
                exact ⟨by rw [hR2.out, hW.out]; simp [f0, f1, f2, f3], HD2.out⟩
              · go_wp2_with (first | (refine wpList_load_at rfl 29 _ rfl (ad.add (k * 17)) rfl o.cells _ h3.out Try.underlying29 rfl op_info ?_) | (refine wpList_store_row rfl 29 _ _ rfl (wr.heap.size) _ rfl rfl 29 _ (Blk.new _ _ _) op_info (OpS.len' _).symm (OpS.one _) ?_; (generalize hZ : World.setRow _ _ _ = Z; rw [World.setRow_alloc_new] at hZ; obtain ⟨bZ, dZ, sZ⟩ := arg_box hZ; obtain ⟨c1, c2, c3, c4⟩ := key _ _ bZ; have HD2 := Lib.hid (HD.out.trans (dZ.mono HD.out.size)); clear hZ bZ dZ sZ)))
                go_roundw
                case rel => exact ⟨k + 1, by omega, by go_num, Lib.hid (by rw [hR2.out, hW.out]; simp [f0, f1, f2, f3]), HD2⟩
                case measure => simp [intOf]; omega
      · go_wp2_with fail
        go_ret
        exact ⟨by rw [hR.out, List.drop_of_length_le (by rw [hl.out]; omega)]; rfl, HD.out⟩
  · have g6 : 60 < s.n := by omega
    go_enter Try.func6, Try.ntmps6
    go_wp2_with fail
    go_ret
    exact ⟨by rw [hR.out, decide_eq_false h60]; rfl, HD.out⟩
end Go.Proofs.Ytdfapbfpmjbnhaa.Hand
