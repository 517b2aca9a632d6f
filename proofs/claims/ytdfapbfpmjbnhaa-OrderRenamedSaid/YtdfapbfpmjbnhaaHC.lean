/- DERIVED. DERIVED. Who goes through what a load returns; a predicate of those between two; fences. -/
import Derived.Test.YtdfapbfpmjbnhaaProg
import Derived.Test.YtdfapbfpmjbnhaaMBits
import Derived.Test.YtdfapbfpmjbnhaaMWalk
import Derived.Test.YtdfapbfpmjbnhaaMArg
import Derived.Test.YtdfapbfpmjbnhaaMRow
import Derived.Test.YtdfapbfpmjbnhaaMOpen
import Derived.Test.YtdfapbfpmjbnhaaMPart
import Derived.Test.YtdfapbfpmjbnhaaMGoMap
import Derived.Test.YtdfapbfpmjbnhaaHB
import Derived.Below
import Derived.Deep.Draws
import Derived.Deep.AppendLies
import Derived.Maps.AppendAt
import Derived.OwnWalk
import Derived.Laws.BytesArg
import Derived.Laws.MakeOwn
import Derived.Laws.OwnMore
import Derived.Deep.OwnRows
import Derived.Tactics
import Derived.Lib.ConvBytes
import Derived.Laws.Slices
import Derived.WalkKit
import Derived.KernelRfl
import Derived.RowKit3
import Derived.Deep.LoopGhost
import Derived.Deep.QuietTactic
import Derived.BigQuiet
import Derived.WideLaws
import Derived.Deep.DeepCutAuto
import Derived.Deep.CutBlock
import Derived.Deep.RegionHeld3
import Derived.Laws.Rows
import Derived.Lib.AppendStr
import Derived.ArgAppend
import Derived.Laws.IdiomCopy
import Derived.OrdersHeld
import Derived.Laws.BitsLemmas
import Derived.Laws.Bits64
import Derived.RowKit
import Derived.Outline
import Derived.Handy
import Derived.Lib.Hide
import Derived.Deep.Light
import Derived.Laws.CopyOwn
import Derived.Laws.AppendOwnNone
import Derived.RangeFuncNested
import Derived.RangeFuncBound
import Derived.RangeFuncCalls
import Derived.RangeFuncLeaves
import Derived.Shelf.Abstract
import Derived.Shelf.RegionOpen
import Derived.OwnWalkIn
import Derived.TacticsInMore
import Derived.LoopNIn
import Derived.LoopIn
import Derived.Maps.OwnIn
import Derived.Deep.WholeRow
namespace Go.Proofs.Ytdfapbfpmjbnhaa.Hand
open Go Go.RowKit Go.Proofs.Ytdfapbfpmjbnhaa.M
set_option linter.unusedVariables false
set_option linter.unusedSimpArgs false
attribute [local go_sem] Oper.semAt_some
set_option maxHeartbeats 4000000 in
theorem returned_any (o : OpS) (w : World) : Calls Try.prog 30 #[.agg o.cells] w fun e w' => e = .returned (.func (.func 32) #[] #[.pointer (some ⟨w.heap.size, 0, none⟩)]) ∧ w.alloc (.cells o.cells 29) = w' := by
  go_enter Try.func30, Try.ntmps30
  go_wp2_with fail
  go_ret
  exact ⟨rfl, rfl⟩
def byOf (o : OpS) (id : Int) : Bool := (retOf o).any (·.2 == id)
theorem ret_at {w W : World} {o : OpS} {Bn : Nat} (hA : o.At w) (d : Below w.heap.size w W) (hB : Blk W Bn o.cells 29) (mb : Nat) (h1 : w.heap.size ≤ mb) (h2 : Bn ≠ mb) : RetAt W W.heap.size mb Bn o :=
  ⟨hB, fun hn => by
    obtain ⟨ad, e, h1, h3⟩ := hA.f.1 hn
    exact ⟨ad, e, Nat.lt_of_lt_of_le h1 d.size, by omega, fun j x hx => (d.cell (p := ad.add j) (by rw [block_add]; exact h1)).trans (h3 j x hx)⟩, hB.lt, h2, Nat.le_refl _⟩
theorem by_start {w W0 : World} {c1 c2 c3 c4 : Array Value} {T1 T2 T3 T4 : Nat} (e : (((w.alloc (.cells c1 T1)).alloc (.cells c2 T2)).alloc (.cells c3 T3)).alloc (.cells c4 T4) = W0) :
    Blk W0 (w.heap.size + 1) c2 T2 ∧ Blk W0 (w.heap.size + 1 + 1) c3 T3 ∧ Blk W0 (w.heap.size + 1 + 1 + 1) c4 T4 ∧ Below w.heap.size w W0 ∧ w.heap.size + 1 + 1 + 1 + 1 = W0.heap.size := by
  subst e
  have h2 := Blk.new (w.alloc (.cells c1 T1)) c2 T2
  have h3 := Blk.new ((w.alloc (.cells c1 T1)).alloc (.cells c2 T2)) c3 T3
  have h4 := Blk.new (((w.alloc (.cells c1 T1)).alloc (.cells c2 T2)).alloc (.cells c3 T3)) c4 T4
  simp only [World.size_alloc] at h2 h3 h4
  exact ⟨(h2.alloc _).alloc _, h3.alloc _, h4, ((((Below.refl _ _).alloc (Nat.le_refl _) _).alloc (by simp) _).alloc (by simp; omega) _).alloc (by simp; omega) _, by simp [World.size_alloc]⟩
theorem by_false {P : Int × Int → Prop} {o : OpS} {id : Int} {ys : List { p : Int × Int // P p }} (g : ys.map (·.1) = retOf o) (h : ∀ p ∈ ys, p.1.2 ≠ id) : byOf o id = false := by
  unfold byOf
  rw [Bool.eq_false_iff]
  intro e
  obtain ⟨p, hp, e⟩ := List.any_eq_true.1 e
  rw [← g, List.mem_map] at hp
  obtain ⟨q, hq, rfl⟩ := hp
  exact h q hq (by simpa using e)
theorem by_true {P : Int × Int → Prop} {o : OpS} {id : Int} {pre : List { p : Int × Int // P p }} (h : pre.map (·.1) <+: retOf o) (g : ∃ p ∈ pre, p.1.2 = id) : byOf o id = true := by
  obtain ⟨p, hp, e⟩ := g
  unfold byOf
  rw [List.any_eq_true]
  exact ⟨p.1, h.subset (List.mem_map.2 ⟨p, hp, rfl⟩), by simpa using e⟩
set_option maxRecDepth 100000 in
set_option maxHeartbeats 4000000 in
theorem by_any (o : OpS) (id : Int) (w : World) (hA : o.At w) : Calls Try.prog 21 #[.agg o.cells, .int .i64 id] w fun e w' => e = .returned (.bool (byOf o id)) ∧ Below w.heap.size w w' := by
  refine (callsIn_wide (n := 5)).1 ?_
  refine callsIn_of_wp_marks Try.func21 rfl trivial ?_ rfl
  simp only [Try.ntmps21, List.size_toArray, List.length_cons, List.length_nil, Nat.reduceAdd, Nat.reduceSub, Array.replicate_succ, Array.replicate_zero, List.push_toArray, List.append_toArray, List.nil_append, List.cons_append]
  gi_wp2_with (first | (refine wpListIn_load_at rfl 29 _ rfl ⟨w.heap.size, 0, none⟩ rfl o.cells _ (((Blk.new w _ _).alloc _).alloc _).whole Try.underlying29 rfl op_info ?_) | (refine ⟨trivial, ?_⟩; gi_at_call 30; refine (callsIn_wide.2 (returned_any _ _)).mono ?_; rintro e w' ⟨rfl, rfl⟩))
  generalize hW : World.alloc (World.alloc (World.alloc (World.alloc w _) _) _) _ = W0
  obtain ⟨b1, b2, b3, d0, hs⟩ := by_start hW
  have hr := ret_at hA d0 b3 W0.heap.size (by omega) (by omega)
  have k1 := b1.cell 0
  have k2 := b2.cell 0
  have k3 := b2.frozen 0
  rw [show (#[Value.int .i64 id] : Array Value)[0]? = some (.int .i64 id) from rfl] at k1
  rw [show (#[Value.bool false] : Array Value)[0]? = some (.bool false) from rfl] at k2
  clear hW b1 b2 b3
  refine wpIn_rangeFunc_ownF rfl (by decide) (gf := 32) (lb := #[.pointer (some ⟨w.heap.size + 1 + 1 + 1, 0, none⟩)]) rfl trivial (enters_of Try.func32 (by kernel_rfl) rfl)
    (ret_stops (fun _ => True) W0.heap.size W0.heap.size (w.heap.size + 1 + 1 + 1) o W0 (fun _ _ => trivial) hA.u hA.z ⟨hA.f.2.1, hA.f.2.2.1⟩ hr 4 (by decide)) KeepB.trans (KeepB.put (Nat.le_refl _)) (Below.refl _ _) (fun _ => rfl)
    (fun pre W => ((∀ p ∈ pre, p.1.2 ≠ id) ∧ W.cell? ⟨w.heap.size + 1, 0, none⟩ = some (.int .i64 id) ∧ W.cell? ⟨w.heap.size + 1 + 1, 0, none⟩ = some (.bool false) ∧ W.frozen? ⟨w.heap.size + 1 + 1, 0, none⟩ = false) ∧ Below w.heap.size w W)
    (fun c pre W => (c = .ret ∧ (∃ p ∈ pre, p.1.2 = id) ∧ W.cell? ⟨w.heap.size + 1 + 1, 0, none⟩ = some (.bool true)) ∧ Below w.heap.size w W)
    (OwnFrom.and (Own.from (fun s A B row hs hg hr => ⟨hs.1, cell_kept hs.2.1 hg hr, cell_kept hs.2.2.1 hg hr, (frozen_kept hs.2.2.1 hg hr).trans hs.2.2.2⟩) _) (ownFrom_below (Nat.le_refl _) (by omega)))
    (fun c => OwnFrom.and (Own.from (fun s A B row hs hg hr => ⟨hs.1, hs.2.1, cell_kept hs.2.2 hg hr⟩) _) (ownFrom_below (Nat.le_refl _) (by omega)))
    ⟨⟨by simp, k1, k2, k3⟩, d0⟩
    ?a1 ?assign ?body ?done ?stop
  case assign =>
    intro l x W K hK
    gi_wp2
    exact hK
  case body =>
    rintro l pre x W ⟨⟨hp, hcw, hcr, hfr⟩, hB⟩ _
    by_cases hx : x.1.2 = id
    · have hq : (x.1.2 == id) = true := by simpa using hx
      gi_wp2
      exact ⟨KeepsOthers.setCell _ _ _, ⟨rfl, ⟨x, List.mem_append.2 (.inr (by simp)), hx⟩, World.cell?_setCell_same' _ _ _ (by rw [hcr]; rfl)⟩, hB.setCell (p := ⟨w.heap.size + 1 + 1, 0, none⟩) (by simp; omega) _⟩
    · have hq : (x.1.2 == id) = false := by simpa using hx
      gi_wp2
      exact ⟨KeepsOthers.refl _, KeepB.refl _, ⟨fun y hy => (List.mem_append.1 hy).elim (hp y) (fun e => by simp at e; subst e; exact hx), hcw, hcr, hfr⟩, hB⟩
  case done =>
    rintro D ys W hD hys ⟨⟨hne, _, hcr, hfr⟩, hB⟩ hK
    gi_wp2
    have hK' := (KeepsOthers.setCell W ⟨w.heap.size + 1 + 1, 0, none⟩ (.bool false)).same D _ hK rfl
    refine ⟨by simp, .inl ⟨_, _, rfl, run_takeDeferred hK', ?_⟩⟩
    have hc5 := cell_kept (World.cell?_setCell_same' W ⟨w.heap.size + 1 + 1, 0, none⟩ (.bool false) (by rw [hcr]; rfl)) (grownBy_putObj' _ D (.deferred none)) (fun r e => by cases e; exact ⟨_, hK', rfl⟩)
    refine ⟨.bool false, ?_, by rw [by_false hys hne], (hB.setCell (p := ⟨w.heap.size + 1 + 1, 0, none⟩) (by simp; omega) _).trans (belowK_b (w := w) (Nat.le_refl _) _ D _ _ (by omega) hK' rfl rfl)⟩
    simp [results, Try.f21, go_sem, hc5]
  case stop =>
    rintro D c pre W hD hpre ⟨⟨rfl, hin, hcr⟩, hB⟩ hK
    gi_wp2
    refine ⟨by simp, .inl ⟨_, _, rfl, run_takeDeferred hK, ?_⟩⟩
    have hc5 := cell_kept hcr (grownBy_putObj' _ D (.deferred none)) (fun r e => by cases e; exact ⟨_, hK, rfl⟩)
    refine ⟨.bool true, ?_, by rw [by_true hpre hin], hB.trans (belowK_b (w := w) (Nat.le_refl _) W D _ _ (by omega) hK rfl rfl)⟩
    simp [results, Try.f21, go_sem, hc5]
/-- Operations that lie in a slice. -/
structure OSl where
  a : Option Addr
  n : Nat
  c : Nat
  l : List OpS
def OSl.v (s : OSl) : Value := .slice s.a s.n s.c
structure OSl.At (w : World) (s : OSl) : Prop where
  r : s.l ≠ [] → ∃ ad, s.a = some ad ∧ ad.block < w.heap.size ∧ ∀ k o, s.l[k]? = some o → CellsAt w (ad.add (k * 17)) o.cells
  n : s.l.length = s.n
  m : s.n ≤ 9223372036854775807
  o : ∀ o ∈ s.l, o.At w
theorem OSl.At.below {w w' : World} {s : OSl} (h : s.At w) (d : Below w.heap.size w w') : s.At w' :=
  ⟨fun hn => by
    obtain ⟨ad, e, h1, h2⟩ := h.r hn
    exact ⟨ad, e, Nat.lt_of_lt_of_le h1 d.size, fun k o hk => (h2 k o hk).below (by rw [block_add]; exact h1) d⟩, h.n, h.m, fun o ho => (h.o o ho).below d⟩
theorem OSl.At.cell {w : World} {s : OSl} (h : s.At w) {k : Nat} (hk : k < s.n) : ∃ ad, s.a = some ad ∧ ad.block < w.heap.size ∧ ∃ h2 : k < s.l.length, CellsAt w (ad.add (k * 17)) s.l[k].cells ∧ s.l[k].At w := by
  obtain ⟨ad, e, h1, h4⟩ := h.r (fun e => by have := h.n; rw [e] at this; simp at this; omega)
  exact ⟨ad, e, h1, by have := h.n; omega, h4 k _ (List.getElem?_eq_getElem _), h.o _ (List.getElem_mem _)⟩
def pairC (a b : OpS) (s : OSl) : Array Value := (a.cells.toList ++ (b.cells.toList ++ [s.v])).toArray
theorem OpS.len (o : OpS) : o.cells.toList.length = 17 := by simp [OpS.cells]
theorem OpS.len' (o : OpS) : o.cells.size = 17 := by simp [OpS.cells]
theorem OpS.one (o : OpS) : o.cells.all (·.oneCell') = true := by simp [OpS.cells, Value.oneCell', Sl.v]
theorem pair_size (a b : OpS) (s : OSl) : (pairC a b s).size = 35 := by simp [pairC, OpS.len']
theorem pair_info : (Try.prog.info? 42).map (·.size) = some 35 := by kernel_rfl
theorem pair_one (a b : OpS) (s : OSl) : (pairC a b s).all (·.oneCell') = true := by
  have h1 := OpS.one a
  have h2 := OpS.one b
  rw [Array.all_eq_true_iff_forall_mem] at *
  intro v hv
  simp only [pairC, List.mem_toArray, List.mem_append, Array.mem_toList_iff, List.mem_singleton] at hv
  rcases hv with h | h | h
  · exact h1 v h
  · exact h2 v h
  · subst h; rfl
theorem pair_a (a b : OpS) (s : OSl) (j : Nat) (v : Value) (h : a.cells[j]? = some v) : (pairC a b s)[0 + j]? = some v := by
  have hj := (Array.getElem?_eq_some_iff.1 h).1
  rw [Nat.zero_add, pairC, List.getElem?_toArray, List.getElem?_append_left (by simpa using hj), Array.getElem?_toList, h]
theorem pair_b (a b : OpS) (s : OSl) (j : Nat) (v : Value) (h : b.cells[j]? = some v) : (pairC a b s)[17 + j]? = some v := by
  have hj := (Array.getElem?_eq_some_iff.1 h).1
  rw [pairC, List.getElem?_toArray, List.getElem?_append_right (by rw [OpS.len]; omega), OpS.len, show 17 + j - 17 = j by omega, List.getElem?_append_left (by simpa using hj), Array.getElem?_toList, h]
theorem pair_c (a b : OpS) (s : OSl) : (pairC a b s)[34]? = some s.v := by
  rw [pairC, List.getElem?_toArray, List.getElem?_append_right (by rw [OpS.len]; omega), OpS.len, List.getElem?_append_right (by rw [OpS.len]; omega), OpS.len]; rfl
theorem any_drop_o (p : OpS → Bool) (l : List OpS) (k : Nat) (h : k < l.length) : (l.drop k).any p = (p l[k] || (l.drop (k + 1)).any p) := by
  rw [List.drop_eq_getElem_cons h, List.any_cons]
set_option maxRecDepth 100000 in
set_option maxHeartbeats 4000000 in
theorem some_any (a b : OpS) (s : OSl) (K : Nat) (cap : Array Value) (P : OpS → Bool) (w : World) (hS : s.At w) (hE : ∀ args w, (callFunc K args).run Try.prog w = .ok (.enter K args) w)
    (hC : Hid (∀ o ∈ s.l, ∀ W, Below w.heap.size w W → Calls Try.prog K (#[.agg o.cells] ++ cap) W fun e w' => e = .returned (.bool (P o)) ∧ Below W.heap.size W w')) :
    Calls Try.prog 22 #[.agg (pairC a b s), .func (.func K) #[] cap] w fun e w' => e = .returned (.bool (s.l.any P)) ∧ Below w.heap.size w w' := by
  have HS := Lib.hid hS
  have hR := Lib.hid (show s.l.any P = (s.l.drop 0).any P from rfl)
  have hn := hS.m
  have hl := Lib.hid hS.n
  generalize s.l.any P = R at *
  have c34 : (pairC a b s)[34]? = some (.slice s.a s.n s.c) := pair_c a b s
  generalize hcs : pairC a b s = cs at *
  clear hcs hS
  go_enter Try.func22, Try.ntmps22
  go_wp2_with fail
  generalize hX : World.alloc w _ = X
  have HD := Lib.hid (arg_box hX).2.1
  clear hX c34
  go_loopw [10] (fun i wr => ∃ k : Nat, k ≤ s.n ∧ i = .int .i64 k ∧ Hid (R = (s.l.drop k).any P) ∧ Hid (Below w.heap.size w wr)) (fun i _ => s.n - (intOf i).toNat)
  case atStart => exact ⟨0, by omega, rfl, hR, HD⟩
  case round =>
    obtain ⟨k, hk, rfl, hR, HD⟩ := hrel
    by_cases hlt : k < s.n
    · obtain ⟨ad, e, h1, h2, h3, h4⟩ := (HS.out.below HD.out).cell hlt
      replace h3 := Lib.hid h3
      have hR2 := Lib.hid (hR.out.trans (any_drop_o P _ k h2))
      have HC := Lib.hid (hC.out s.l[k] (List.getElem_mem _))
      clear h1 h4 hR
      generalize s.l[k] = o at *
      rw [e]
      go_wp2_with (first | (refine wpList_load_at rfl 29 _ rfl (ad.add (k * 17)) rfl o.cells _ h3.out Try.underlying29 rfl op_info ?_) | (refine wpList_store_row rfl 29 _ _ rfl (wr.heap.size) _ rfl rfl 29 _ (Blk.new _ _ _) op_info (OpS.len' _).symm (OpS.one _) ?_; (generalize hZ : World.setRow _ _ _ = Z; rw [World.setRow_alloc_new] at hZ; obtain ⟨b5, d5, _⟩ := arg_box hZ; have B := Lib.hid b5; have HD2 := Lib.hid (HD.out.trans (d5.mono HD.out.size)); clear hZ b5 d5)) | (refine wpList_load_row rfl 29 _ rfl (wr.heap.size) rfl 29 _ _ _ B.out Try.underlying29 rfl op_info ?_))
      refine (HC.out _ HD2.out).mono ?_
      rintro e W3 ⟨rfl, d3⟩
      have HD3 := Lib.hid (HD2.out.trans (d3.mono HD2.out.size))
      clear d3 HC HD2 B HD
      by_cases hp : P o = true
      · rw [hp, Bool.true_or] at hR2
        rw [hp]
        go_wp2_with fail
        go_ret
        exact ⟨by rw [hR2.out]; rfl, HD3.out⟩
      · have hp : P o = false := by simpa using hp
        rw [hp, Bool.false_or] at hR2
        rw [hp]
        go_wp2_with fail
        go_roundw
        case rel => exact ⟨k + 1, by omega, by go_num, hR2, HD3⟩
        case measure => simp [intOf]; omega
    · go_wp2_with fail
      go_ret
      exact ⟨by rw [hR.out, List.drop_of_length_le (by rw [hl.out]; omega)]; rfl, HD.out⟩
def bitB (n : Int) (m : Int) : Bool := decide (0 < Go.bits .and .i64 n m)
def sideOf (n : Int) (o : OpS) : Bool := (o.load && bitB n 2) || (o.store && bitB n 1)
set_option maxHeartbeats 4000000 in
theorem side_any (n : Int) (o : OpS) (w : World) : Calls Try.prog 24 #[.int .i64 n, .agg o.cells] w fun e w' => e = .returned (.bool (sideOf n o)) ∧ Below w.heap.size w w' := by
  have key : ∀ X, w.alloc (.cells o.cells 29) = X → X.cell? ⟨w.heap.size, 1, none⟩ = some (.bool o.load) ∧ X.cell? ⟨w.heap.size, 2, none⟩ = some (.bool o.store) := fun X e => by
    obtain ⟨B, d, _⟩ := arg_box e
    exact ⟨cLoad B, cStore B⟩
  have fin : ∀ X, w.alloc (.cells o.cells 29) = X → Below w.heap.size w X := fun X e => (arg_box e).2.1
  have n1 : sideOf n o = ((o.load && bitB n 2) || (o.store && bitB n 1)) := rfl
  have d1 : bitB n 2 = decide (0 < Go.bits .and .i64 n 2) := rfl
  have d2 : bitB n 1 = decide (0 < Go.bits .and .i64 n 1) := rfl
  generalize sideOf n o = R at *
  generalize o.cells = cs at *
  generalize o.load = ld at *
  generalize o.store = st at *
  generalize bitB n 2 = B2 at *
  generalize bitB n 1 = B1 at *
  have N1 := Lib.hid n1
  clear n1
  cases ld <;> cases st
  all_goals
    by_cases h2 : 0 < Go.bits .and .i64 n 2 <;> by_cases h1 : 0 < Go.bits .and .i64 n 1
    all_goals
      replace d1 := Lib.hid d1
      replace d2 := Lib.hid d2
      go_enter Try.func24, Try.ntmps24
      go_wp2_with fail
      go_ret
      exact ⟨by rw [N1.out, d1.out, d2.out]; simp [h1, h2], fin _ rfl⟩
def touchB (o : OpS) : Bool := !o.fence && (o.load || o.store)
set_option maxHeartbeats 4000000 in
theorem touches_any (o : OpS) (w : World) : Calls Try.prog 16 #[.agg o.cells] w fun e w' => e = .returned (.bool (touchB o)) ∧ Below w.heap.size w w' := by
  have key : ∀ X, w.alloc (.cells o.cells 29) = X → X.cell? ⟨w.heap.size, 1, none⟩ = some (.bool o.load) ∧ X.cell? ⟨w.heap.size, 2, none⟩ = some (.bool o.store) ∧ X.cell? ⟨w.heap.size, 3, none⟩ = some (.bool o.fence) := fun X e => by
    obtain ⟨B, d, _⟩ := arg_box e
    exact ⟨cLoad B, cStore B, cFence B⟩
  have fin : ∀ X, w.alloc (.cells o.cells 29) = X → Below w.heap.size w X := fun X e => (arg_box e).2.1
  have n1 : touchB o = (!o.fence && (o.load || o.store)) := rfl
  generalize touchB o = R at *
  generalize o.cells = cs at *
  generalize o.load = ld at *
  generalize o.store = st at *
  generalize o.fence = fe at *
  have N1 := Lib.hid n1
  clear n1
  cases ld <;> cases st <;> cases fe
  all_goals
    go_enter Try.func16, Try.ntmps16
    go_wp2_with fail
    go_ret
    exact ⟨by rw [N1.out]; rfl, fin _ rfl⟩
def fourB (a b o : OpS) : Bool := o.fence && (sideOf o.pred a && sideOf o.succ b)
set_option maxRecDepth 100000 in
set_option maxHeartbeats 4000000 in
theorem four_any (a b o : OpS) (pa pb : Nat) (w : World) (A : Blk w pa a.cells 29) (B : Blk w pb b.cells 29) :
    Calls Try.prog 23 #[.agg o.cells, .pointer (some ⟨pa, 0, none⟩), .pointer (some ⟨pb, 0, none⟩)] w fun e w' => e = .returned (.bool (fourB a b o)) ∧ Below w.heap.size w w' := by
  have HA := Lib.hid A
  have HB := Lib.hid B
  have n1 : fourB a b o = (o.fence && (sideOf o.pred a && sideOf o.succ b)) := rfl
  have S1 := Lib.hid fun W => side_any o.pred a W
  have S2 := Lib.hid fun W => side_any o.succ b W
  generalize fourB a b o = R at *
  generalize sideOf o.pred a = s1 at *
  generalize sideOf o.succ b = s2 at *
  have N1 := Lib.hid n1
  clear n1 A B
  have key : ∀ X, w.alloc (.cells o.cells 29) = X → X.cell? ⟨w.heap.size, 3, none⟩ = some (.bool o.fence) ∧ X.cell? ⟨w.heap.size, 8, none⟩ = some (.int .i64 o.pred) := fun X e => by
    obtain ⟨B, d, _⟩ := arg_box e
    exact ⟨cFence B, B.cell 8⟩
  have key2 : Hid (∀ X W, w.alloc (.cells o.cells 29) = X → Below X.heap.size X W → W.cell? ⟨w.heap.size, 9, none⟩ = some (.int .i64 o.succ) ∧ Below w.heap.size w W ∧ Blk W pb b.cells 29) := Lib.hid fun X W e d2 => by
    obtain ⟨B, d, _⟩ := arg_box e
    exact ⟨(B.below d2).cell 9, d.trans (d2.mono d.size), (HB.out.below d).below d2⟩
  have fin : ∀ X, w.alloc (.cells o.cells 29) = X → Below w.heap.size w X := fun X e => (arg_box e).2.1
  generalize o.fence = fe at *
  cases fe
  · go_enter Try.func23, Try.ntmps23
    go_wp2_with fail
    go_ret
    exact ⟨by rw [N1.out]; rfl, fin _ rfl⟩
  · cases s1
    all_goals
      go_enter Try.func23, Try.ntmps23
      go_wp2_with (refine wpList_load_in rfl 29 _ rfl ⟨pa, 0, none⟩ rfl a.cells _ (HA.out.alloc _).whole Try.underlying29 rfl op_info ?_)
      refine (S1.out _).mono ?_
      rintro e W ⟨rfl, d⟩
      obtain ⟨c9, d9, b9⟩ := key2.out _ _ rfl d
      replace b9 := Lib.hid b9
      replace d9 := Lib.hid d9
      clear key d
    · go_wp2_with fail
      go_ret
      exact ⟨by rw [N1.out]; rfl, d9.out⟩
    · go_wp2_with (refine wpList_load_in rfl 29 _ rfl ⟨pb, 0, none⟩ rfl b.cells _ b9.out.whole Try.underlying29 rfl op_info ?_)
      refine (S2.out _).mono ?_
      rintro e W2 ⟨rfl, d⟩
      have d10 := d9.out.trans (d.mono d9.out.size)
      replace d10 := Lib.hid d10
      clear d
      go_wp2_with fail
      go_ret
      exact ⟨by rw [N1.out]; simp, d10.out⟩
end Go.Proofs.Ytdfapbfpmjbnhaa.Hand
