/- DERIVED. DERIVED. Whether two loads return a byte by unlike numbers. -/
import Derived.Test.YtdfapbfpmjbnhaaProg
import Derived.Test.YtdfapbfpmjbnhaaMBits
import Derived.Test.YtdfapbfpmjbnhaaMWalk
import Derived.Test.YtdfapbfpmjbnhaaMArg
import Derived.Test.YtdfapbfpmjbnhaaMRow
import Derived.Test.YtdfapbfpmjbnhaaMOpen
import Derived.Test.YtdfapbfpmjbnhaaMPart
import Derived.Test.YtdfapbfpmjbnhaaMGoMap
import Derived.Test.YtdfapbfpmjbnhaaHD
import Derived.Below
import Derived.Deep.Draws
import Derived.Deep.AppendLies
import Derived.Maps.AppendAt
import Derived.OwnWalk
import Derived.Laws.BytesArg
import Derived.Laws.MakeOwn
import Derived.Laws.OwnMore
import Derived.Deep.OwnRows
import Derived.Tactics
import Derived.Lib.ConvBytes
import Derived.Laws.Slices
import Derived.WalkKit
import Derived.KernelRfl
import Derived.RowKit3
import Derived.Deep.LoopGhost
import Derived.Deep.QuietTactic
import Derived.BigQuiet
import Derived.WideLaws
import Derived.Deep.DeepCutAuto
import Derived.Deep.CutBlock
import Derived.Deep.RegionHeld3
import Derived.Laws.Rows
import Derived.Lib.AppendStr
import Derived.ArgAppend
import Derived.Laws.IdiomCopy
import Derived.OrdersHeld
import Derived.Laws.BitsLemmas
import Derived.Laws.Bits64
import Derived.RowKit
import Derived.Outline
import Derived.Handy
import Derived.Lib.Hide
import Derived.Deep.Light
import Derived.Laws.CopyOwn
import Derived.Laws.AppendOwnNone
import Derived.RangeFuncNested
import Derived.RangeFuncBound
import Derived.RangeFuncCalls
import Derived.RangeFuncLeaves
import Derived.Shelf.Abstract
import Derived.Shelf.RegionOpen
import Derived.OwnWalkIn
import Derived.TacticsInMore
import Derived.LoopNIn
import Derived.LoopIn
import Derived.Maps.OwnIn
import Derived.Deep.WholeRow
namespace Go.Proofs.Ytdfapbfpmjbnhaa.Hand
open Go Go.RowKit Go.Proofs.Ytdfapbfpmjbnhaa.M
set_option linter.unusedVariables false
set_option linter.unusedSimpArgs false
attribute [local go_sem] Oper.semAt_some
theorem u26 : Try.prog.underlying 26 = some (.int .u64) := Try.underlying26
theorem map_under : Try.prog.underlying 53 = some (.map 26 3) := Try.underlying53
theorem zero_int (w : World) : (zeroValue 3).run Try.prog w = .ok (.int .i64 0) w := by kernel_rfl
noncomputable def EI : Elem Int := intE Try.prog 3 .i64 Try.underlying3
/-- What stands in the map behind these. -/
def metTo (pre : List (Int × Int)) : Int → Option Int := pre.foldl (fun f p => mapPut f p.1 p.2) (fun _ => none)
theorem metTo_snoc (pre : List (Int × Int)) (p : Int × Int) : metTo (pre ++ [p]) = mapPut (metTo pre) p.1 p.2 := by simp [metTo, List.foldl_append]
def WfP (p : Int × Int) : Prop := (Lit.int .u64 p.1).wf = true ∧ (Lit.int .i64 p.2).wf = true
def valsB {P : Int × Int → Prop} (pre : List { p : Int × Int // P p }) : List (Int × Int) := pre.map (·.1)
theorem vals_snoc {P : Int × Int → Prop} (pre : List { p : Int × Int // P p }) (x) : valsB (pre ++ [x]) = valsB pre ++ [x.1] := by simp [valsB]
def metB (f : Int → Option Int) (l : List OpS) (p : Int × Int) : Bool := match f p.1 with | none => false | some n => n != p.2 && !(l.any (storeHas · p.1))
def apartOf (a b : OpS) (l : List OpS) : Bool := (retOf b).any (metB (metTo (retOf a)) l)
theorem retFrom_wf (o : OpS) : ∀ (l : List Int) (k : Nat), (∀ x ∈ l, (Lit.int .i64 x).wf = true) → ∀ p ∈ retFrom o k l, WfP p
  | [], k, h, p, hp => by cases hp
  | m :: r, k, h, p, hp => by
    unfold retFrom at hp
    split at hp
    · rcases List.mem_cons.1 hp with rfl | hp
      · exact ⟨wf_wrap _ _, h m (by simp)⟩
      · exact retFrom_wf o r (k + 1) (fun x hx => h x (by simp [hx])) p hp
    · cases hp
theorem retOf_wf {w : World} {o : OpS} (h : o.At w) : ∀ p ∈ retOf o, WfP p := by
  intro p hp
  unfold retOf at hp
  split at hp
  · exact retFrom_wf o _ 0 h.f.2.2.2 p hp
  · cases hp
/-- The blocks of apart: the pair, the result, the map's variable, the map. -/
structure AP (w W : World) (B : Nat) (a b : OpS) (s : OSl) (n : Nat) (f : Int → Option Int) : Prop where
  bp : Blk W w.heap.size (pairC a b s) 42
  br : Blk W (w.heap.size + 1) #[.bool false] 4
  bm : Blk W (w.heap.size + 1 + 1 + 1) #[.map (some (w.heap.size + 1 + 1))] 53
  mp : MapAt Try.prog 26 .u64 EI W (w.heap.size + 1 + 1) n f
  d : Below w.heap.size w W
  hB : w.heap.size + 1 + 1 + 1 < B
  hs : B ≤ W.heap.size
theorem AP.kept {w W W' : World} {B n : Nat} {a b : OpS} {s : OSl} {f : Int → Option Int} (H : AP w W B a b s n f) {row : Option Nat} (hg : W.grownBy W' row) (hr : ∀ r, row = some r → B ≤ r) : AP w W' B a b s n f := by
  have h1 := H.hB
  have h2 := H.hs
  have q : ∀ k, k < B → W'.heap[k]? = W.heap[k]? := fun k hk => hg.block k (by omega) (fun e => by have := hr k e.symm; omega)
  exact ⟨(q _ (by omega)).trans H.bp, (q _ (by omega)).trans H.br, (q _ (by omega)).trans H.bm, H.mp.same (q _ (by omega)), H.d.grown hg (by omega) (fun k e => by have := hr k e; omega), h1, Nat.le_trans h2 hg.size⟩
theorem AP.below {w W W' : World} {B n : Nat} {a b : OpS} {s : OSl} {f : Int → Option Int} (H : AP w W B a b s n f) (d : Below W.heap.size W W') : AP w W' B a b s n f := H.kept (grown_of_below d) (fun r e => by cases e)
/-- The map has one entry more. -/
theorem AP.put {w W W' : World} {B n m : Nat} {a b : OpS} {s : OSl} {f g : Int → Option Int} (H : AP w W B a b s n f) (hg : W.grownBy W' (some (w.heap.size + 1 + 1))) (M : MapAt Try.prog 26 .u64 EI W' (w.heap.size + 1 + 1) m g) : AP w W' B a b s m g := by
  have h1 := H.hB
  have h2 := H.hs
  have q : ∀ k, k < B → k ≠ w.heap.size + 1 + 1 → W'.heap[k]? = W.heap[k]? := fun k hk hne => hg.block k (by omega) (fun e => hne (by injection e))
  exact ⟨(q _ (by omega) (by omega)).trans H.bp, (q _ (by omega) (by omega)).trans H.br, (q _ (by omega) (by omega)).trans H.bm, M, H.d.grown hg (by omega) (fun k e => by injection e with e; omega), h1, Nat.le_trans h2 hg.size⟩
theorem AP.base {w W : World} {B n : Nat} {a b : OpS} {s : OSl} {f : Int → Option Int} (H : AP w W B a b s n f) (h : w.heap.size + 1 + 1 + 1 < W.heap.size) : AP w W W.heap.size a b s n f := ⟨H.bp, H.br, H.bm, H.mp, H.d, h, Nat.le_refl _⟩
theorem ap_start {w W0 : World} {a b : OpS} {s : OSl} {c : Array Value} {T : Nat} (e : ((((w.alloc (.cells (pairC a b s) 42)).alloc (.cells #[.bool false] 4)).alloc (.map #[] 0)).alloc (.cells #[.map (some (w.heap.size + 1 + 1))] 53)).alloc (.cells c T) = W0) :
    AP w W0 W0.heap.size a b s 0 (fun _ => none) ∧ Blk W0 (w.heap.size + 1 + 1 + 1 + 1) c T ∧ w.heap.size + 1 + 1 + 1 + 1 + 1 = W0.heap.size := by
  subst e
  have h1 := Blk.new w (pairC a b s) 42
  have h2 := Blk.new (w.alloc (.cells (pairC a b s) 42)) #[.bool false] 4
  have h3 := MapAt.made (P := Try.prog) (k := 26) (q := .u64) (E := EI) (w := (w.alloc (.cells (pairC a b s) 42)).alloc (.cells #[.bool false] 4))
  have h4 := Blk.new (((w.alloc (.cells (pairC a b s) 42)).alloc (.cells #[.bool false] 4)).alloc (.map #[] 0)) #[.map (some (w.heap.size + 1 + 1))] 53
  have h5 := Blk.new ((((w.alloc (.cells (pairC a b s) 42)).alloc (.cells #[.bool false] 4)).alloc (.map #[] 0)).alloc (.cells #[.map (some (w.heap.size + 1 + 1))] 53)) c T
  simp only [World.size_alloc] at h2 h3 h4 h5
  have al : ∀ {X : World} {n : Nat} {f : Int → Option Int} (o : Obj), MapAt Try.prog 26 .u64 EI X (w.heap.size + 1 + 1) n f → MapAt Try.prog 26 .u64 EI (X.alloc o) (w.heap.size + 1 + 1) n f := fun o h => h.below ((Below.refl _ _).alloc (Nat.le_refl _) _)
  exact ⟨⟨((((h1.alloc _).alloc _).alloc _).alloc _), ((h2.alloc _).alloc _).alloc _, h4.alloc _, al _ (al _ h3), (((((Below.refl _ _).alloc (Nat.le_refl _) _).alloc (by simp) _).alloc (by simp; omega) _).alloc (by simp; omega) _).alloc (by simp; omega) _, by simp [World.size_alloc], Nat.le_refl _⟩, h5, by simp [World.size_alloc]⟩
theorem hasOf_size {o : OpS} {x : Int} (h : hasOf o x = true) : 1 ≤ o.size ∧ o.size ≤ 16777216 := by
  unfold hasOf lastB at h
  simp only [Bool.and_eq_true, decide_eq_true_eq] at h
  exact h.1.1
theorem retFrom_len (o : OpS) (hu : U64 o.addr) : ∀ (l : List Int) (k : Nat), k ≤ 16777216 → (retFrom o k l).length ≤ 16777216 - k
  | [], k, _ => by simp [retFrom]
  | m :: r, k, hk => by
    unfold retFrom
    split
    · next h =>
      have h1 := hasOf_size h
      have h2 : (k : Int) < o.size ∨ 16777216 ≤ k := by
        by_cases hk2 : 16777216 ≤ k
        · exact .inr hk2
        · left
          unfold hasOf lastB at h
          simp only [Bool.and_eq_true, decide_eq_true_eq] at h
          obtain ⟨⟨_, _, h3⟩, h4, h5⟩ := h
          obtain ⟨hu1, hu2⟩ := hu
          have hl : lastN o = endOf o := by
            unfold lastN
            rw [if_pos ⟨h1.1, h1.2, by assumption⟩]
          rw [hl] at h5
          unfold endOf at h3 h5
          simp only [u64w] at h3 h4 h5
          omega
      rcases h2 with h2 | h2
      · have I := retFrom_len o hu r (k + 1) (by omega)
        simp only [List.length_cons]
        omega
      · have hk3 : k = 16777216 := by omega
        exfalso
        unfold hasOf lastB at h
        simp only [Bool.and_eq_true, decide_eq_true_eq] at h
        obtain ⟨⟨_, _, h3⟩, h4, h5⟩ := h
        obtain ⟨hu1, hu2⟩ := hu
        have hl : lastN o = endOf o := by
          unfold lastN
          rw [if_pos ⟨h1.1, h1.2, by assumption⟩]
        rw [hl] at h5
        unfold endOf at h3 h5
        simp only [u64w] at h3 h4 h5
        omega
    · simp
theorem ret_len (o : OpS) (hu : U64 o.addr) : (retOf o).length ≤ 16777216 := by
  unfold retOf
  split
  · exact retFrom_len o hu _ 0 (by omega)
  · simp
def AllNo (fA : Int → Option Int) (l : List OpS) (pre : List { p : Int × Int // WfP p }) : Prop := ∀ p ∈ pre, metB fA l p.1 = false
def SomeYes (fA : Int → Option Int) (l : List OpS) (pre : List { p : Int × Int // WfP p }) : Prop := ∃ p ∈ pre, metB fA l p.1 = true
theorem all_snoc {fA : Int → Option Int} {l : List OpS} {pre : List { p : Int × Int // WfP p }} {x : { p : Int × Int // WfP p }} (h : AllNo fA l pre) (g : metB fA l x.1 = false) : AllNo fA l (pre ++ [x]) := fun p hp =>
  (List.mem_append.1 hp).elim (h p) (fun e => by simp at e; subst e; exact g)
theorem some_snoc {fA : Int → Option Int} {l : List OpS} {pre : List { p : Int × Int // WfP p }} {x : { p : Int × Int // WfP p }} (g : metB fA l x.1 = true) : SomeYes fA l (pre ++ [x]) := ⟨x, by simp, g⟩
theorem keeps_below {B : Nat} {V U : World} (d : Below V.heap.size V U) : KeepsFrom B V U := KeepsFrom.of_grownBy (grown_of_below d) (fun j e => by cases e)
theorem keeps_set {B : Nat} {V : World} {b i : Nat} {cs : Array Value} {T : Nat} {u : Value} (h : Blk V b cs T) : KeepsFrom B V (V.setCell ⟨b, i, none⟩ u) := (KeepsOthers.setCell V ⟨b, i, none⟩ u).from B
theorem apart_false {a b : OpS} {l : List OpS} {fA : Int → Option Int} {zs : List { p : Int × Int // WfP p }} (h : fA = metTo (retOf a)) (g : zs.map (·.1) = retOf b) (n : AllNo fA l zs) : apartOf a b l = false := by
  subst h
  unfold apartOf
  rw [Bool.eq_false_iff]
  intro e
  obtain ⟨p, hp, e⟩ := List.any_eq_true.1 e
  rw [← g, List.mem_map] at hp
  obtain ⟨q, hq, rfl⟩ := hp
  rw [n q hq] at e; cases e
theorem apart_true {a b : OpS} {l : List OpS} {fA : Int → Option Int} {zs : List { p : Int × Int // WfP p }} (h : fA = metTo (retOf a)) (g : zs.map (·.1) <+: retOf b) (n : SomeYes fA l zs) : apartOf a b l = true := by
  subst h
  unfold apartOf
  obtain ⟨q, hq, e⟩ := n
  rw [List.any_eq_true]
  exact ⟨q.1, g.subset (List.mem_map.2 ⟨q, hq, rfl⟩), e⟩
theorem apart_end0 {w V : World} {D D2 T : Nat} {v : Value} (d : Below w.heap.size w V) (B : Blk V (w.heap.size + 1) #[v] T) (h1 : V.heap[D]? = some (.deferred (some []))) (h2 : V.heap[D2]? = some (.deferred (some []))) (n1 : D ≠ w.heap.size + 1) (n2 : D2 ≠ w.heap.size + 1) (n3 : D ≠ D2) (l1 : w.heap.size ≤ D) (l2 : w.heap.size ≤ D2) :
    V.heap[D2]? = some (.deferred (some [])) ∧ (V.putObj D2 (.deferred none)).heap[D]? = some (.deferred (some [])) ∧
    ((V.putObj D2 (.deferred none)).putObj D (.deferred none)).cell? ⟨w.heap.size + 1, 0, none⟩ = some v ∧ Below w.heap.size w ((V.putObj D2 (.deferred none)).putObj D (.deferred none)) := by
  have k3 : (V.putObj D2 (.deferred none)).heap[D]? = some (.deferred (some [])) := (World.putObj_heap_other n3).trans h1
  refine ⟨h2, k3, ?_, (d.trans (belowK_b (w := w) (Nat.le_refl _) _ D2 _ _ l2 h2 rfl rfl)).trans (belowK_b (w := w) (Nat.le_refl _) _ D _ _ l1 k3 rfl rfl)⟩
  have b2 : Blk (V.putObj D2 (.deferred none)) (w.heap.size + 1) #[v] T := (World.putObj_heap_other (fun e => n2 e.symm)).trans B
  have b3 : Blk ((V.putObj D2 (.deferred none)).putObj D (.deferred none)) (w.heap.size + 1) #[v] T := (World.putObj_heap_other (fun e => n1 e.symm)).trans b2
  exact b3.cell 0
theorem apart_end {w V : World} {D D2 T : Nat} {u v : Value} (d : Below w.heap.size w V) (B : Blk V (w.heap.size + 1) #[u] T) (h1 : V.heap[D]? = some (.deferred (some []))) (h2 : V.heap[D2]? = some (.deferred (some []))) (n1 : D ≠ w.heap.size + 1) (n2 : D2 ≠ w.heap.size + 1) (n3 : D ≠ D2) (l1 : w.heap.size ≤ D) (l2 : w.heap.size ≤ D2) :
    (V.setCell ⟨w.heap.size + 1, 0, none⟩ v).heap[D2]? = some (.deferred (some [])) ∧ ((V.setCell ⟨w.heap.size + 1, 0, none⟩ v).putObj D2 (.deferred none)).heap[D]? = some (.deferred (some [])) ∧
    (((V.setCell ⟨w.heap.size + 1, 0, none⟩ v).putObj D2 (.deferred none)).putObj D (.deferred none)).cell? ⟨w.heap.size + 1, 0, none⟩ = some v ∧ Below w.heap.size w (((V.setCell ⟨w.heap.size + 1, 0, none⟩ v).putObj D2 (.deferred none)).putObj D (.deferred none)) :=
  apart_end0 (d.setCell (p := ⟨w.heap.size + 1, 0, none⟩) (by show w.heap.size ≤ w.heap.size + 1; omega) v) (B.set 0 v) ((Below.heap_setCell V ⟨w.heap.size + 1, 0, none⟩ v D n1).trans h1) ((Below.heap_setCell V ⟨w.heap.size + 1, 0, none⟩ v D2 n2).trans h2) n1 n2 n3 l1 l2
set_option maxRecDepth 100000 in
set_option maxHeartbeats 4000000 in
theorem apart_any (a b : OpS) (s : OSl) (w : World) (hA : a.At w) (hBa : b.At w) (hS : s.At w) : Calls Try.prog 20 #[.agg (pairC a b s)] w fun e w' => e = .returned (.bool (apartOf a b s.l)) ∧ Below w.heap.size w w' := by
  have hmm := @run_makeMap Try.prog
  refine (callsIn_wide (n := 5)).1 ?_
  refine callsIn_of_wp_marks Try.func20 rfl trivial ?_ rfl
  simp only [Try.ntmps20, List.size_toArray, List.length_cons, List.length_nil, Nat.reduceAdd, Nat.reduceSub, Array.replicate_succ, Array.replicate_zero, List.push_toArray, List.append_toArray, List.nil_append, List.cons_append]
  gi_wp2_with fail
  refine (wpIn_wide (n := 5)).2 (wp_scope_straight ((wpIn_wide (n := 5)).1 ?_))
  have hc1 : CellsAt ((((w.alloc (.cells (pairC a b s) 42)).alloc (.cells #[.bool false] 4)).alloc (.map #[] 0)).alloc (.cells #[.map (some (w.heap.size + 1 + 1))] 53)) ⟨w.heap.size, 0, none⟩ a.cells :=
    ((((Blk.new w (pairC a b s) 42).alloc _).alloc _).alloc _).cellsAt (pair_a a b s)
  replace hc1 := Lib.hid hc1
  gi_wp2_with (first | (refine wpListIn_load_at rfl 29 _ rfl ⟨w.heap.size, 0, none⟩ rfl a.cells _ hc1.out Try.underlying29 rfl op_info ?_) | ((with_reducible refine And.intro ?_ ?_); (exact trivial); gi_at_call 30; refine (callsIn_wide.2 (returned_any _ _)).mono ?_; rintro e w' ⟨rfl, rfl⟩))
  generalize hW : World.alloc (World.alloc (World.alloc (World.alloc (World.alloc w _) _) _) _) _ = W0
  obtain ⟨H0, b5, hs⟩ := ap_start hW
  have hr := ret_at hA H0.d b5 (w.heap.size + 1 + 1) (by omega) (by omega)
  have H0 := Lib.hid H0
  clear hc1 hW b5 hmm
  refine wpIn_rangeFunc_ownG rfl (by decide) (gf := 32) (lb := #[.pointer (some ⟨w.heap.size + 1 + 1 + 1 + 1, 0, none⟩)]) rfl trivial (enters_of Try.func32 (by kernel_rfl) rfl)
    (ret_stops WfP W0.heap.size (w.heap.size + 1 + 1) (w.heap.size + 1 + 1 + 1 + 1) a W0 (retOf_wf hA) hA.u hA.z ⟨hA.f.2.1, hA.f.2.2.1⟩ hr 4 (by decide)) KeepB.trans (KeepB.put (Nat.le_refl _)) (Below.refl _ _) (fun _ => rfl)
    (fun (pre : List { p : Int × Int // WfP p }) W => AP w W W0.heap.size a b s pre.length (metTo (valsB pre))) (fun _ _ _ => False)
    (fun s A B row hs hg hr => hs.kept hg (fun r e => (hr r e).1)) (fun _ _ _ _ _ hs _ _ => hs) H0.out
    ?a1 ?assign ?body ?done ?stop
  case assign =>
    intro l x W K hK
    gi_wp2
    exact hK
  case body =>
    rintro l pre x W hP hlt
    have HP := Lib.hid hP
    have cm := hP.bm.cell 0
    have hm := Lib.hid hP.mp
    have hpl : pre.length < 16777216 := Nat.lt_of_lt_of_le hlt (ret_len a hA.u)
    clear hP
    rw [show (#[.map (some (w.heap.size + 1 + 1))] : Array Value)[0]? = some (.map (some (w.heap.size + 1 + 1))) from rfl] at cm
    gi_wp2_with (first | (gi_at_mapUpdate; refine wpListIn_map_put rfl _ _ _ 53 3 rfl Try.underlying26 Try.underlying53 rfl hm.out (by unfold maxLen; omega) x.1.1 rfl x.2.1 x.1.2 rfl x.2.2 ?_; intro w1 hm1 hg1))
    refine ⟨KeepsFrom.of_grownBy hg1 (fun j e => by injection e with e; omega), ⟨hg1.size, fun k h1 h2 => hg1.block k (Nat.lt_of_lt_of_le h1 HP.out.hs) (fun e => h2 (by injection e))⟩, ?_⟩
    show AP w w1 W0.heap.size a b s (pre ++ [x]).length (metTo (valsB (pre ++ [x])))
    rw [vals_snoc, List.length_append, metTo_snoc]
    exact HP.out.put hg1 hm1
  case done =>
    rintro D ys W hD hys hP hK
    have hys : valsB ys = retOf a := hys
    rw [hys] at hP
    have hn : w.heap.size + 1 + 1 + 1 < W0.heap.size := by omega
    have HP := Lib.hid hP
    have HD := Lib.hid hD
    have HK := Lib.hid hK
    clear hP hK hys hr hs H0 hD
    have hc2 : CellsAt W ⟨w.heap.size, 17, none⟩ b.cells := HP.out.bp.cellsAt (pair_b a b s)
    replace hc2 := Lib.hid hc2
    gi_wp2_with fail
    refine wpIn_label ?_
    gi_wp2_with (first | (refine wpListIn_load_at rfl 29 _ rfl ⟨w.heap.size, 17, none⟩ rfl b.cells _ hc2.out Try.underlying29 rfl op_info ?_) | ((with_reducible refine And.intro ?_ ?_); (exact trivial); gi_at_call 30; refine (callsIn_wide.2 (returned_any _ _)).mono ?_; rintro e w' ⟨rfl, rfl⟩))
    have hWs := HP.out.hs
    obtain ⟨fA, hfA⟩ : ∃ fA, fA = metTo (retOf a) := ⟨_, rfl⟩
    replace HP := Lib.hid (hfA ▸ HP.out)
    replace hfA := Lib.hid hfA
    generalize ys.length = ny at *
    generalize hX : World.alloc W _ = X
    obtain ⟨bX, dX, sX⟩ := arg_box hX
    have HX : Hid (AP w X X.heap.size a b s ny fA) := Lib.hid ((HP.out.below dX).base (by omega))
    have HDX : Hid (X.heap[D]? = some (.deferred (some [])) ∧ D < X.heap.size) := Lib.hid (by
      have h1 := (Array.getElem?_eq_some_iff.1 HK.out).1
      exact ⟨(dX.block D h1).trans HK.out, by omega⟩)
    have hr2 := ret_at hBa HX.out.d bX (w.heap.size + 1 + 1) (by omega) (by omega)
    clear hX bX dX HP HK hc2
    refine wpIn_rangeFunc_ownH rfl (by decide) (gf := 32) (lb := #[.pointer (some ⟨W.heap.size, 0, none⟩)]) rfl trivial (enters_of Try.func32 (by kernel_rfl) rfl)
      (ret_stops WfP X.heap.size (w.heap.size + 1 + 1) W.heap.size b X (retOf_wf hBa) hBa.u hBa.z ⟨hBa.f.2.1, hBa.f.2.2.1⟩ hr2 4 (by decide)) KeepB.trans (KeepB.put (Nat.le_refl _)) (Below.refl _ _) (fun _ => rfl)
      (fun (pre : List { p : Int × Int // WfP p }) V => AP w V X.heap.size a b s ny fA ∧ AllNo fA s.l pre ∧ V.heap[D]? = some (.deferred (some [])))
      (fun c pre V => c = .ret ∧ SomeYes fA s.l pre ∧ Blk V (w.heap.size + 1) #[.bool true] 4 ∧ Below w.heap.size w V ∧ V.heap[D]? = some (.deferred (some [])))
      (fun s A B row hs hg hr => ⟨hs.1.kept hg (fun r e => (hr r e).1), hs.2.1, (hg.block D (Nat.lt_of_lt_of_le HDX.out.2 hs.1.hs) (fun e => by have := (hr D e.symm).1; have := HDX.out.2; omega)).trans hs.2.2⟩)
      (fun c s A B row hs hg hr => ⟨hs.1, hs.2.1, (hg.block _ hs.2.2.1.lt (fun e => by have := (hr _ e.symm).1; omega)).trans hs.2.2.1, hs.2.2.2.1.grown hg hs.2.2.2.1.size (fun k e => by have := (hr k e).1; omega), (hg.block D (Array.getElem?_eq_some_iff.1 hs.2.2.2.2).1 (fun e => by have := (hr D e.symm).1; have := HDX.out.2; omega)).trans hs.2.2.2.2⟩)
      ⟨HX.out, (fun p hp => by cases hp), HDX.out.1⟩
      (fun x a' V => ∃ Bx, X.heap.size ≤ Bx ∧ Blk V Bx #[.int .u64 x.1.1] 26 ∧ a' = { tmps := #[.agg (pairC a b s), .pointer (some ⟨w.heap.size, 0, none⟩), .pointer (some ⟨w.heap.size + 1, 0, none⟩), .pointer (some ⟨w.heap.size + 1 + 1 + 1, 0, none⟩), undef, undef, .pointer (some ⟨Bx, 0, none⟩), .int .i64 x.1.2, undef, undef, .map (some (w.heap.size + 1 + 1)), .pointer (some ⟨w.heap.size, 0, none⟩), .agg a.cells, .func (.func 32) #[] #[.pointer (some ⟨w.heap.size + 1 + 1 + 1 + 1, 0, none⟩)], undef, undef, undef, undef, undef, .pointer (some ⟨w.heap.size, 17, none⟩), .agg b.cells, .func (.func 32) #[] #[.pointer (some ⟨W.heap.size, 0, none⟩)], .int .u64 x.1.1, .int .i64 x.1.2, undef, undef, undef, undef, undef, undef, undef, undef, undef, undef, undef, undef, undef, undef, undef, undef, undef], defers := [] }) ?hAx ?assign2 ?body2 ?done2 ?stop2
    case assign2 =>
      rintro l pre x V K ⟨h1, h2, h3⟩ hK
      have hsz := h1.hs
      gi_wp2
      refine hK _ _ ((KeepsOthers.alloc _ _).from _) (KeepB.of_below ((Below.refl V.heap.size V).alloc (Nat.le_refl _) _) h1.hs) ⟨h1.below ((Below.refl V.heap.size V).alloc (Nat.le_refl _) _), h2, (Below.heap_alloc _ _ _ (Array.getElem?_eq_some_iff.1 h3).1).trans h3⟩ ?_
      obtain ⟨Bx, hBx⟩ : ∃ Bx, V.heap.size = Bx := ⟨_, rfl⟩
      exact ⟨Bx, by omega, hBx ▸ Blk.new _ _ _, by rw [hBx]⟩
    case hAx =>
      rintro x a' _ A B row ⟨Bx, h1, h2, h3⟩ hg hr
      refine ⟨Bx, h1, (hg.block Bx h2.lt (fun e => ?_)).trans h2, h3⟩
      obtain ⟨_, o, ho, hn⟩ := hr Bx e.symm
      rw [show A.heap[Bx]? = _ from h2] at ho
      injection ho with ho
      rw [← ho] at hn
      cases hn
    case body2 =>
      rintro l pre x a' V hl ⟨r, hr⟩ ⟨hP, hall, hD⟩ ⟨Bx, hBx, bX, rfl⟩ hlt
      have HP := Lib.hid hP
      have HB := Lib.hid bX
      have HA := Lib.hid hall
      have HDD := Lib.hid hD
      have cm := hP.bm.cell 0
      have cx := bX.cell 0
      rw [show (#[.map (some (w.heap.size + 1 + 1))] : Array Value)[0]? = some (.map (some (w.heap.size + 1 + 1))) from rfl] at cm
      rw [show (#[.int .u64 x.1.1] : Array Value)[0]? = some (.int .u64 x.1.1) from rfl] at cx
      have hm := Lib.hid hP.mp
      have hdef : metB fA s.l x.1 = match fA x.1.1 with | none => false | some n => n != x.1.2 && !(s.l.any (storeHas · x.1.1)) := rfl
      clear hP hall hD bX hr
      cases hf : fA x.1.1 with
      | none =>
        rw [hf] at hdef
        have hv : EI.val (mapAt EI fA x.1.1) = .int .i64 0 := by unfold mapAt; rw [hf]; rfl
        replace hdef := Lib.hid hdef
        replace hv := Lib.hid hv
        replace hf := Lib.hid hf
        gi_wp2_with (refine wpListIn_map_ok rfl _ _ 53 3 rfl Try.underlying26 Try.underlying53 (zero_int _) rfl hm.out x.1.1 rfl x.2.1 ?_; rw [hv.out, hf.out])
        exact ⟨KeepsFrom.refl _ _, KeepB.refl _, HP.out, all_snoc HA.out hdef.out, HDD.out⟩
      | some n =>
        rw [hf] at hdef
        have hv : EI.val (mapAt EI fA x.1.1) = .int .i64 n := by unfold mapAt; rw [hf]; rfl
        replace hv := Lib.hid hv
        replace hf := Lib.hid hf
        by_cases hnm : n = x.1.2
        · have d1 : (x.1.2 == n) = true := by simpa using hnm.symm
          have hdef2 := Lib.hid (show metB fA s.l x.1 = false by rw [hdef]; simp [hnm])
          clear hdef hnm
          gi_wp2_with (refine wpListIn_map_ok rfl _ _ 53 3 rfl Try.underlying26 Try.underlying53 (zero_int _) rfl hm.out x.1.1 rfl x.2.1 ?_; rw [hv.out, hf.out])
          exact ⟨KeepsFrom.refl _ _, KeepB.refl _, HP.out, all_snoc HA.out hdef2.out, HDD.out⟩
        · have d1 : (x.1.2 == n) = false := by simpa using fun e => hnm e.symm
          have hdef2 := Lib.hid (show metB fA s.l x.1 = !(s.l.any (storeHas · x.1.1)) by rw [hdef]; simp [hnm])
          clear hdef hnm
          have hsm := Lib.hid (some_any a b s 31 #[.pointer (some ⟨Bx, 0, none⟩)] (storeHas · x.1.1) V (hS.below HP.out.d) (enters_of Try.func31 (by kernel_rfl) rfl)
            (Lib.hid fun o ho U hU => apart1_any o x.1.1 Bx U ((hU.cell (p := ⟨Bx, 0, none⟩) HB.out.lt).trans (HB.out.cell 0)) (((hS.below HP.out.d).o o ho).below hU)))
          generalize (s.l.any (storeHas · x.1.1)) = R at *
          gi_wp2_with (first | (refine wpListIn_map_ok rfl _ _ 53 3 rfl Try.underlying26 Try.underlying53 (zero_int _) rfl hm.out x.1.1 rfl x.2.1 ?_; rw [hv.out, hf.out]) | (refine wpListIn_load_at rfl 42 _ rfl ⟨w.heap.size, 0, none⟩ rfl (pairC a b s) _ HP.out.bp.whole Try.underlying42 rfl pair_info ?_))
          refine And.intro trivial ((CallsIn.inRound l (callsIn_wide.2 hsm.out)).mono ?_)
          rintro e V2 ⟨rfl, d2⟩
          have HP2 := Lib.hid (HP.out.below d2)
          have HD2 := Lib.hid ((d2.block D (Array.getElem?_eq_some_iff.1 HDD.out).1).trans HDD.out)
          have K2 := Lib.hid (keeps_below (B := X.heap.size) d2)
          have KB2 := Lib.hid (KeepB.of_below (n0 := X.heap.size) (mb := w.heap.size + 1 + 1) d2 HP.out.hs)
          have cr := HP2.out.br.cell 0
          have fr := HP2.out.br.frozen 0
          rw [show (#[.bool false] : Array Value)[0]? = some (.bool false) from rfl] at cr
          clear hsm hm HP cm cx d2 HDD
          cases R
          · gi_wp2_with fail
            have hlt2 := HP2.out.bp.lt
            have hB2 := HP2.out.hB
            have hs2 := HP2.out.hs
            refine ⟨K2.out.trans (keeps_set HP2.out.br), ⟨rfl, some_snoc (by rw [hdef2.out]; rfl), HP2.out.br.set 0 _, HP2.out.d.setCell (p := ⟨w.heap.size + 1, 0, none⟩) (by simp) _, (Below.heap_setCell _ ⟨w.heap.size + 1, 0, none⟩ _ D (by show D ≠ w.heap.size + 1; have := HD.out; omega)).trans HD2.out⟩⟩
          · gi_wp2_with fail
            exact ⟨K2.out, KB2.out, HP2.out, all_snoc HA.out (by rw [hdef2.out]; rfl), HD2.out⟩
    case done2 =>
      rintro D2 zs V hD2 hzs ⟨hP, hall, hD⟩ hK
      have HP := Lib.hid hP
      have HA := Lib.hid (show apartOf a b s.l = false from apart_false hfA.out hzs hall)
      have HDD := Lib.hid hD
      have HK := Lib.hid hK
      have cr := hP.br.cell 0
      have fr := hP.br.frozen 0
      rw [show (#[.bool false] : Array Value)[0]? = some (.bool false) from rfl] at cr
      clear hP hall hD hzs
      gi_wp2_with fail
      have hne : D ≠ w.heap.size + 1 ∧ D2 ≠ w.heap.size + 1 ∧ D ≠ D2 ∧ w.heap.size ≤ D ∧ w.heap.size ≤ D2 := by
        have := HD.out; have := HDX.out.2; have := HP.out.hB; omega
      obtain ⟨k1, k2, k3, k4⟩ := apart_end HP.out.d HP.out.br HDD.out HK.out hne.1 hne.2.1 hne.2.2.1 hne.2.2.2.1 hne.2.2.2.2 (v := .bool false)
      rw [Exit.noGoto_ret]
      refine ⟨by simp, .inl ⟨_, _, rfl, run_takeDeferred k1, ?_⟩⟩
      refine ⟨by simp, .inl ⟨_, _, rfl, run_takeDeferred k2, ?_⟩⟩
      refine ⟨.bool false, ?_, by rw [HA.out], k4⟩
      simp [results, Try.f20, go_sem, k3]
    case stop2 =>
      rintro D2 c pre V hD2 hpre ⟨rfl, hs, hB, hd, hD⟩ hK
      have HA := Lib.hid (show apartOf a b s.l = true from apart_true hfA.out hpre hs)
      have hne : D ≠ w.heap.size + 1 ∧ D2 ≠ w.heap.size + 1 ∧ D ≠ D2 ∧ w.heap.size ≤ D ∧ w.heap.size ≤ D2 := by
        have := HD.out; have := HDX.out.2; have := HX.out.hB; omega
      obtain ⟨k1, k2, k3, k4⟩ := apart_end0 hd hB hD hK hne.1 hne.2.1 hne.2.2.1 hne.2.2.2.1 hne.2.2.2.2
      clear hs hB hd hD hK hpre
      gi_wp2_with fail
      try rw [Exit.noGoto_ret]
      refine ⟨by simp, .inl ⟨_, _, rfl, run_takeDeferred k1, ?_⟩⟩
      refine ⟨by simp, .inl ⟨_, _, rfl, run_takeDeferred k2, ?_⟩⟩
      refine ⟨.bool true, ?_, by rw [HA.out], k4⟩
      simp [results, Try.f20, go_sem, k3]
  case stop =>
    rintro D c pre W _ _ h _
    exact h.elim
end Go.Proofs.Ytdfapbfpmjbnhaa.Hand
