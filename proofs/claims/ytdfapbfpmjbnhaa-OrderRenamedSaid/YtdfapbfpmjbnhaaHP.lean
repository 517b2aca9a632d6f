/- DERIVED. DERIVED. The closures of the law OrderRenamed; its plain law. -/
import Derived.Test.YtdfapbfpmjbnhaaProg
import Derived.Test.YtdfapbfpmjbnhaaMBits
import Derived.Test.YtdfapbfpmjbnhaaMWalk
import Derived.Test.YtdfapbfpmjbnhaaMArg
import Derived.Test.YtdfapbfpmjbnhaaMRow
import Derived.Test.YtdfapbfpmjbnhaaMOpen
import Derived.Test.YtdfapbfpmjbnhaaMPart
import Derived.Test.YtdfapbfpmjbnhaaMGoMap
import Derived.Test.YtdfapbfpmjbnhaaHO
import Derived.Below
import Derived.Deep.Draws
import Derived.Deep.AppendLies
import Derived.Maps.AppendAt
import Derived.OwnWalk
import Derived.Laws.BytesArg
import Derived.Laws.MakeOwn
import Derived.Laws.OwnMore
import Derived.Deep.OwnRows
import Derived.Tactics
import Derived.Lib.ConvBytes
import Derived.Laws.Slices
import Derived.WalkKit
import Derived.KernelRfl
import Derived.RowKit3
import Derived.Deep.LoopGhost
import Derived.Deep.QuietTactic
import Derived.BigQuiet
import Derived.WideLaws
import Derived.Deep.DeepCutAuto
import Derived.Deep.CutBlock
import Derived.Deep.RegionHeld3
import Derived.Laws.Rows
import Derived.Lib.AppendStr
import Derived.ArgAppend
import Derived.Laws.IdiomCopy
import Derived.OrdersHeld
import Derived.Laws.BitsLemmas
import Derived.Laws.Bits64
import Derived.RowKit
import Derived.Outline
import Derived.Handy
import Derived.Lib.Hide
import Derived.Deep.Light
import Derived.Laws.CopyOwn
import Derived.Laws.AppendOwnNone
import Derived.RangeFuncNested
import Derived.RangeFuncBound
import Derived.RangeFuncCalls
import Derived.RangeFuncLeaves
import Derived.Shelf.Abstract
import Derived.Shelf.RegionOpen
import Derived.OwnWalkIn
import Derived.TacticsInMore
import Derived.LoopNIn
import Derived.LoopIn
import Derived.Maps.OwnIn
import Derived.Deep.WholeRow
namespace Go.Proofs.Ytdfapbfpmjbnhaa.Hand
open Go Go.RowKit Go.Proofs.Ytdfapbfpmjbnhaa.M
set_option linter.unusedVariables false
set_option linter.unusedSimpArgs false
attribute [local go_sem] Oper.semAt_some
/-- The other number. -/
def renI (k n : Int) : Int := if n < 0 ∨ 1000 < n then n else 3 * n + 2000 * k
theorem renI_wf (k n : Int) (h1 : 1 ≤ k) (h2 : k ≤ 1000) (h : (Lit.int .i64 n).wf = true) : (Lit.int .i64 (renI k n)).wf = true := by
  unfold renI
  split
  · exact h
  · exact wf_small _ (by omega) (by omega)
set_option maxHeartbeats 4000000 in
theorem id_any (k n : Int) (pk : Nat) (w : World) (h1 : 1 ≤ k) (h2 : k ≤ 1000) (hc : w.cell? ⟨pk, 0, none⟩ = some (.int .i64 k)) :
    Calls Try.prog 12 #[.int .i64 n, .pointer (some ⟨pk, 0, none⟩)] w fun e w' => e = .returned (.int .i64 (renI k n)) ∧ w = w' := by
  have hR := Lib.hid (show renI k n = if n < 0 ∨ 1000 < n then n else 3 * n + 2000 * k from rfl)
  generalize renI k n = R at *
  by_cases a1 : n < 0
  · go_enter Try.func12, Try.ntmps12
    go_wp2_with fail
    go_ret
    exact ⟨by rw [hR.out, if_pos (.inl a1)]; rfl, rfl⟩
  · by_cases a2 : 1000 < n
    · go_enter Try.func12, Try.ntmps12
      go_wp2_with fail
      go_ret
      exact ⟨by rw [hR.out, if_pos (.inr a2)]; rfl, rfl⟩
    · go_enter Try.func12, Try.ntmps12
      go_wp2_with fail
      go_ret
      exact ⟨by rw [hR.out, if_neg (by omega)]; congr 2, rfl⟩
def greatOf (l : List Int) : Bool := l.any (fun x => decide (1000 < x))
set_option maxHeartbeats 4000000 in
theorem great_any (s : Sl) (w : World) (h : s.At w) : Calls Try.prog 14 #[s.v] w fun e w' => e = .returned (.bool (greatOf s.l)) ∧ w = w' := by
  have HS := Lib.hid h
  have h3 := h.2.2.1
  have hl := Lib.hid h.2.1
  have hR := Lib.hid (show greatOf s.l = (s.l.drop 0).any (fun x => decide (1000 < x)) from rfl)
  generalize greatOf s.l = R at *
  clear h
  obtain ⟨A, N, C, L⟩ := s
  unfold Sl.v
  dsimp only at *
  go_enter Try.func14, Try.ntmps14
  go_wp2_with fail
  go_loop [7] (fun i => ∃ k : Nat, k ≤ N ∧ i = .int .i64 k ∧ Hid (R = (L.drop k).any (fun x => decide (1000 < x)))) (fun i => N - (intOf i).toNat)
  case atStart => exact ⟨0, by omega, rfl, hR⟩
  case round =>
    obtain ⟨k, hk, rfl, hR⟩ := hrel
    by_cases hlt : k < N
    · obtain ⟨ad, e, hk2, hc⟩ := sl_cell HS.out hlt
      dsimp only at e hk2 hc
      subst e
      have hR2 := Lib.hid (hR.out.trans (any_drop _ L k hk2))
      clear hR
      generalize L[k] = x at *
      by_cases hx : 1000 < x
      · have dx : decide (1000 < x) = true := by simpa using hx
        rw [dx, Bool.true_or] at hR2
        go_wp2_with fail
        go_ret
        exact ⟨by rw [hR2.out]; rfl, rfl⟩
      · have dx : decide (1000 < x) = false := by simpa using hx
        rw [dx, Bool.false_or] at hR2
        go_wp2_with fail
        go_round
        case rel => exact ⟨k + 1, by omega, by go_num, hR2⟩
        case measure => simp [intOf]; omega
    · go_wp2_with fail
      go_ret
      exact ⟨by rw [hR.out, List.drop_of_length_le (by rw [hl.out]; omega)]; rfl, rfl⟩
set_option maxRecDepth 100000 in
set_option maxHeartbeats 4000000 in
theorem ids_any (k : Int) (s : Sl) (pk pi : Nat) (w : World) (h1 : 1 ≤ k) (h2 : k ≤ 1000) (h : s.At w) (hn : s.n ≤ 60) (hk : w.cell? ⟨pk, 0, none⟩ = some (.int .i64 k))
    (hi : w.cell? ⟨pi, 0, none⟩ = some (.func (.func 12) #[] #[.pointer (some ⟨pk, 0, none⟩)])) :
    Calls Try.prog 13 #[s.v, .pointer (some ⟨pi, 0, none⟩)] w fun e w' => ∃ o, e = .returned o ∧ RL w w' o (s.l.map (renI k)) := by
  have HS := Lib.hid h
  have hl := Lib.hid h.2.1
  have HK := Lib.hid fun W (d : Below w.heap.size w W) (n : Int) => id_any k n pk W h1 h2 ((d.cell (p := ⟨pk, 0, none⟩) (lt_of_cell hk)).trans hk)
  have HI := Lib.hid fun W (d : Below w.heap.size w W) => (d.cell (p := ⟨pi, 0, none⟩) (lt_of_cell hi)).trans hi
  have hW := Lib.hid fun x (hx : x ∈ s.l) => renI_wf k x h1 h2 (h.2.2.2 x hx)
  obtain ⟨i0, hi0, hz0, hz1, hz2⟩ := int_info
  clear h hk hi
  obtain ⟨A, N, C, L⟩ := s
  unfold Sl.v
  dsimp only at *
  go_enter Try.func13, Try.ntmps13
  go_wp2_with fail
  go_loopw [4, 9] (fun o i wr => ∃ j : Nat, j ≤ N ∧ i = .int .i64 j ∧ Hid (RL w wr o ((L.take j).map (renI k)))) (fun _ i _ => N - (intOf i).toNat)
  case atStart => exact ⟨0, by omega, rfl, Lib.hid (RL.nil w)⟩
  case round =>
    obtain ⟨j, hj, rfl, HR⟩ := hrel
    by_cases hlt : j < N
    · obtain ⟨ad, e, hk2, hc⟩ := sl_cell (HS.out.below HR.out.d) hlt
      dsimp only at e hk2 hc
      subst e
      have hx := Lib.hid (hW.out _ (List.getElem_mem hk2))
      have hT := Lib.hid (show (L.take (j + 1)).map (renI k) = (L.take j).map (renI k) ++ [renI k L[j]] by rw [List.take_add_one, List.getElem?_eq_getElem hk2, List.map_append]; rfl)
      have hlen : ((L.take j).map (renI k)).length = j := by rw [List.length_map, List.length_take]; omega
      generalize (L.take j).map (renI k) = acc at *
      have hif := HI.out _ HR.out.d
      have HKW := Lib.hid (HK.out _ HR.out.d L[j])
      generalize L[j] = x at *
      go_wp2_with (first | (go_at_call 12; refine HKW.out.mono ?_; clear HKW; rintro e W ⟨rfl, rfl⟩) | (at_builtin; refine wpList_append_own _ rfl (.tmp 13) (.tmp 17) 27 rfl w.heap.size 3 i0 (.int .i64 0) 1 8 Try.underlying27 hi0 hz0 hz1 hz2 rfl (by decide) _ acc.length (acc.map (Value.int .i64)) rfl (HR.out.own.alloc _) ⟨wr.heap.size, 0, none⟩ 1 1 [.int .i64 (renI k x)] rfl rfl (cell_one_new _ _ _) (by intro u hu; simp at hu; subst hu; rfl) (by unfold maxLen; omega) (by omega) (by have := HR.out.d.size; simp; omega) ?_; intro v6 w6 hown6 hgrow6 hnil6))
      go_roundw
      case rel =>
        exact ⟨j + 1, by omega, by go_num, Lib.hid (by rw [hT.out]; exact (HR.out.below ((Below.refl _ _).alloc (Nat.le_refl _) _)).more _ hx.out hown6 hgrow6)⟩
      case measure => simp [intOf]; omega
    · have hjn : j = N := by omega
      subst hjn
      go_wp2_with fail
      go_ret
      exact ⟨_, rfl, by have := HR.out; rwa [List.take_of_length_le (by rw [hl.out]; omega)] at this⟩
theorem renI_inj {k x y : Int} (hk : 1 ≤ k) (hx : x ≤ 1000) (hy : y ≤ 1000) : renI k x = renI k y ↔ x = y := by
  unfold renI
  constructor
  · intro h
    split at h <;> split at h <;> omega
  · intro h
    rw [h]
theorem renI_beq {k x y : Int} (hk : 1 ≤ k) (hx : x ≤ 1000) (hy : y ≤ 1000) : (renI k x == renI k y) = (x == y) := by
  rw [Bool.eq_iff_iff]
  simp only [beq_iff_eq]
  exact renI_inj hk hx hy
theorem renI_neg (k : Int) : renI k (-1) = -1 := by unfold renI; rw [if_pos (.inl (by omega))]
theorem any_same {α : Type} {P Q : α → Bool} : ∀ (l : List α), (∀ p ∈ l, P p = Q p) → l.any P = l.any Q
  | [], _ => rfl
  | x :: l, h => by rw [List.any_cons, List.any_cons, h x (by simp), any_same l (fun p hp => h p (by simp [hp]))]
/-- An operation with other numbers. -/
structure Ren (k : Int) (o o' : OpS) : Prop where
  id : o'.id = renI k o.id
  load : o'.load = o.load
  store : o'.store = o.store
  fence : o'.fence = o.fence
  addr : o'.addr = o.addr
  size : o'.size = o.size
  aq : o'.aq = o.aq
  rl : o'.rl = o.rl
  pred : o'.pred = o.pred
  succ : o'.succ = o.succ
  pair : o'.pair = renI k o.pair
  frm : o'.frm.l = o.frm.l.map (renI k)
  n : o'.frm.n = o.frm.n
  addrs : o'.addrs.l = o.addrs.l.map (renI k)
  datas : o'.datas.l = o.datas.l.map (renI k)
  ctrls : o'.ctrls.l = o.ctrls.l.map (renI k)
  d0 : 0 ≤ o.id
  d1 : o.id ≤ 1000
  d2 : o.pair ≤ 1000
  d3 : ∀ x ∈ o.frm.l, x ≤ 1000
  d4 : ∀ x ∈ o.addrs.l, x ≤ 1000
  d5 : ∀ x ∈ o.datas.l, x ≤ 1000
  d6 : ∀ x ∈ o.ctrls.l, x ≤ 1000
section
variable {k : Int} (hk : 1 ≤ k)
include hk
theorem ren_in {l : List Int} {n : Int} (h : ∀ x ∈ l, x ≤ 1000) (hn : n ≤ 1000) : inOf (l.map (renI k)) (renI k n) = inOf l n := by
  unfold inOf
  rw [List.any_map]
  exact any_same l (fun x hx => renI_beq hk (h x hx) hn)
omit hk in
theorem ren_last {o o' : OpS} (h : Ren k o o') : lastB o' = lastB o ∧ lastN o' = lastN o := by
  unfold lastB lastN endOf
  rw [h.size, h.load, h.store, h.addr]
  exact ⟨rfl, rfl⟩
omit hk in
theorem ren_has {o o' : OpS} (h : Ren k o o') (x : Int) : hasOf o' x = hasOf o x := by
  unfold hasOf
  rw [(ren_last h).1, (ren_last h).2, h.addr]
omit hk in
theorem ren_overlap {a a' b b' : OpS} (h : Ren k a a') (g : Ren k b b') : overlapOf a' b' = overlapOf a b := by
  unfold overlapOf
  rw [(ren_last h).1, (ren_last h).2, h.addr, (ren_last g).1, (ren_last g).2, g.addr]
def renP (k : Int) (p : Int × Int) : Int × Int := (p.1, renI k p.2)
omit hk in
theorem ren_retFrom {o o' : OpS} (h : Ren k o o') : ∀ (l : List Int) (j : Nat), retFrom o' j (l.map (renI k)) = (retFrom o j l).map (renP k)
  | [], _ => rfl
  | m :: r, j => by
    rw [List.map_cons]
    unfold retFrom
    rw [ren_has h, h.addr]
    split
    · rw [List.map_cons, ren_retFrom h r (j + 1)]; rfl
    · rfl
omit hk in
theorem ren_ret {o o' : OpS} (h : Ren k o o') : retOf o' = (retOf o).map (renP k) := by
  unfold retOf
  rw [h.load, h.frm]
  split
  · exact ren_retFrom h _ _
  · rfl
omit hk in
theorem retFrom_mem (o : OpS) : ∀ (l : List Int) (j : Nat), ∀ p ∈ retFrom o j l, p.2 ∈ l
  | [], _, p, hp => by cases hp
  | m :: r, j, p, hp => by
    unfold retFrom at hp
    split at hp
    · rcases List.mem_cons.1 hp with rfl | hp
      · simp
      · exact List.mem_cons_of_mem _ (retFrom_mem o r (j + 1) p hp)
    · cases hp
omit hk in
theorem ret_le {o o' : OpS} (h : Ren k o o') : ∀ p ∈ retOf o, p.2 ≤ 1000 := fun p hp => by
  unfold retOf at hp
  split at hp
  · exact h.d3 _ (retFrom_mem o _ _ p hp)
  · cases hp
theorem ren_by {o o' : OpS} (h : Ren k o o') {n : Int} (hn : n ≤ 1000) : byOf o' (renI k n) = byOf o n := by
  unfold byOf
  rw [ren_ret h, List.any_map]
  exact any_same _ (fun p hp => renI_beq hk (ret_le h p hp) hn)
omit hk in
theorem met_map : ∀ (l : List (Int × Int)) (f f' : Int → Option Int), (∀ x, f' x = (f x).map (renI k)) → ∀ x, ((l.map (renP k)).foldl (fun f p => mapPut f p.1 p.2) f') x = ((l.foldl (fun f p => mapPut f p.1 p.2) f) x).map (renI k)
  | [], f, f', h, x => h x
  | p :: l, f, f', h, x => by
    rw [List.map_cons, List.foldl_cons, List.foldl_cons]
    refine met_map l _ _ (fun y => ?_) x
    unfold mapPut renP
    dsimp only
    split
    · rfl
    · exact h y
omit hk in
theorem met_le : ∀ (l : List (Int × Int)) (f : Int → Option Int), (∀ x n, f x = some n → n ≤ 1000) → (∀ p ∈ l, p.2 ≤ 1000) → ∀ x n, (l.foldl (fun f p => mapPut f p.1 p.2) f) x = some n → n ≤ 1000
  | [], f, h, _, x, n, e => h x n e
  | p :: l, f, h, h2, x, n, e => by
    rw [List.foldl_cons] at e
    refine met_le l _ (fun y m e => ?_) (fun q hq => h2 q (by simp [hq])) x n e
    unfold mapPut at e
    split at e
    · injection e with e
      rw [← e]
      exact h2 p (by simp)
    · exact h y m e
/-- Lists of them. -/
inductive RenL (k : Int) : List OpS → List OpS → Prop
  | nil : RenL k [] []
  | cons {o o' : OpS} {l l' : List OpS} : Ren k o o' → RenL k l l' → RenL k (o :: l) (o' :: l')
omit hk in
theorem RenL.len {l l' : List OpS} (h : RenL k l l') : l'.length = l.length := by
  induction h with
  | nil => rfl
  | cons _ _ ih => simp [ih]
omit hk in
theorem RenL.snoc {l l' : List OpS} {o o' : OpS} (h : RenL k l l') (g : Ren k o o') : RenL k (l ++ [o]) (l' ++ [o']) := by
  induction h with
  | nil => exact .cons g .nil
  | cons h1 _ ih => exact .cons h1 ih
omit hk in
theorem RenL.drop {l l' : List OpS} (h : RenL k l l') : ∀ j, RenL k (l.drop j) (l'.drop j) := by
  induction h with
  | nil => intro j; simp only [List.drop_nil]; exact .nil
  | cons h1 h2 ih =>
    intro j
    cases j with
    | zero => exact .cons h1 h2
    | succ j => exact ih j
omit hk in
theorem RenL.take {l l' : List OpS} (h : RenL k l l') : ∀ j, RenL k (l.take j) (l'.take j) := by
  induction h with
  | nil => intro j; simp only [List.take_nil]; exact .nil
  | cons h1 h2 ih =>
    intro j
    cases j with
    | zero => exact .nil
    | succ j => exact .cons h1 (ih j)
omit hk in
theorem RenL.get {l l' : List OpS} (h : RenL k l l') : ∀ j (h1 : j < l.length) (h2 : j < l'.length), Ren k l[j] l'[j] := by
  induction h with
  | nil => intro j h1; simp at h1
  | cons g1 g2 ih =>
    intro j h1 h2
    cases j with
    | zero => exact g1
    | succ j => exact ih j _ _
omit hk in
theorem RenL.any {l l' : List OpS} (h : RenL k l l') {P P' : OpS → Bool} (hP : ∀ o o', Ren k o o' → P' o' = P o) : l'.any P' = l.any P := by
  induction h with
  | nil => rfl
  | cons g1 g2 ih => rw [List.any_cons, List.any_cons, hP _ _ g1, ih]
theorem ren_apart {a a' b b' : OpS} {l l' : List OpS} (ha : Ren k a a') (hb : Ren k b b') (hl : RenL k l l') : apartOf a' b' l' = apartOf a b l := by
  have hS : ∀ x, l'.any (storeHas · x) = l.any (storeHas · x) := fun x => hl.any (fun o o' h => by unfold storeHas; rw [h.store, ren_has h])
  unfold apartOf
  rw [ren_ret hb, ren_ret ha, List.any_map]
  refine any_same _ (fun p hp => ?_)
  have hm : metTo ((retOf a).map (renP k)) p.1 = (metTo (retOf a) p.1).map (renI k) := met_map (retOf a) (fun _ => none) (fun _ => none) (fun x => rfl) p.1
  show metB _ l' (renP k p) = _
  unfold metB
  show (match metTo ((retOf a).map (renP k)) p.1 with | none => false | some n => n != renI k p.2 && !(l'.any (storeHas · p.1))) = _
  rw [hm, hS]
  cases hq : metTo (retOf a) p.1 with
  | none => rfl
  | some n =>
    have hn : n ≤ 1000 := met_le (retOf a) _ (fun x n e => by cases e) (ret_le ha) p.1 n hq
    show (renI k n != renI k p.2 && _) = (n != p.2 && _)
    rw [bne, bne, renI_beq hk hn (ret_le hb p hp)]
omit hk in
theorem ren_side {o o' : OpS} (h : Ren k o o') (n : Int) : sideOf n o' = sideOf n o := by unfold sideOf; rw [h.load, h.store]
omit hk in
theorem ren_touch {o o' : OpS} (h : Ren k o o') : touchB o' = touchB o := by unfold touchB; rw [h.load, h.store, h.fence]
theorem ren_holds {a a' b b' : OpS} {l l' : List OpS} (ha : Ren k a a') (hb : Ren k b b') (hl : RenL k l l') (n : Int) : holdsOf a' b' l' n = holdsOf a b l n := by
  have e4 : l'.any (fourB a' b') = l.any (fourB a b) := hl.any (fun o o' h => by unfold fourB; rw [h.fence, h.pred, h.succ, ren_side ha, ren_side hb])
  have e12 : l'.any (twelveB a' b') = l.any (twelveB a b) := hl.any (fun o o' h => by
    unfold twelveB
    rw [h.store, h.addrs, h.datas, ha.id, h.id, ren_in hk h.d4 ha.d1, ren_in hk h.d5 ha.d1, ren_by hk hb h.d1])
  have e13 : l'.any (thirteenB a') = l.any (thirteenB a) := hl.any (fun o o' h => by
    unfold thirteenB
    rw [h.fence, h.addrs, ha.id, ren_in hk h.d4 ha.d1])
  have e3 : (a'.pair != -1) = (a.pair != -1) := by
    have := renI_beq (y := -1) hk ha.d2 (by omega)
    rw [renI_neg] at this
    rw [bne, bne, ha.pair, this]
  have e8 : (b'.pair == a'.id) = (b.pair == a.id) := by rw [hb.pair, ha.id, renI_beq hk hb.d2 ha.d1]
  have e9 : inOf b'.addrs.l a'.id = inOf b.addrs.l a.id := by rw [hb.addrs, ha.id, ren_in hk hb.d4 ha.d1]
  have e10 : inOf b'.datas.l a'.id = inOf b.datas.l a.id := by rw [hb.datas, ha.id, ren_in hk hb.d5 ha.d1]
  have e11 : inOf b'.ctrls.l a'.id = inOf b.ctrls.l a.id := by rw [hb.ctrls, ha.id, ren_in hk hb.d6 ha.d1]
  have e7 : byOf b' a'.id = byOf b a.id := by rw [ha.id, ren_by hk hb ha.d1]
  unfold holdsOf
  rw [ren_overlap ha hb, ren_apart hk ha hb hl, e3, e4, e7, e8, e9, e10, e11, e12, e13, hb.store, hb.load, ha.store, ha.load, ha.aq, ha.rl, hb.aq, hb.rl]
/-- Which rules hold does not hang on the numbers. -/
theorem ren_rules {l l' : List OpS} (h : RenL k l l') (i j : Int) : rulesOf l' i j = rulesOf l i j := by
  by_cases hb : 0 ≤ i ∧ i < j ∧ j < l.length
  · obtain ⟨p, rfl⟩ := Int.eq_ofNat_of_zero_le hb.1
    obtain ⟨q, rfl⟩ := Int.eq_ofNat_of_zero_le (show 0 ≤ j by omega)
    have hn := h.len
    rw [rulesOf_at l p q (by omega) (by omega) (by omega), rulesOf_at l' p q (by omega) (by omega) (by omega)]
    unfold rulesAt
    have ga := h.get p (by omega) (by omega)
    have gb := h.get q (by omega) (by omega)
    rw [ren_touch ga, ren_touch gb]
    have : holdsOf l'[p] l'[q] (betweenOf l' p q) = holdsOf l[p] l[q] (betweenOf l p q) := by
      funext n
      exact ren_holds hk ga gb ((h.drop _).take _) n
    rw [this]
  · rw [rulesOf_not _ _ _ hb, rulesOf_not _ _ _ (by rw [h.len]; exact hb)]
omit hk in
theorem ren_may {o o' : OpS} (h : Ren k o o') : mayOf o' = mayOf o := by
  unfold mayOf sizeB
  rw [ren_touch h, h.size, h.addr, ren_has h, h.load, h.n]
theorem ren_bad {o o' : OpS} (h : Ren k o o') {f f' : Int → Option Bool} (hf : ∀ x, x ≤ 1000 → f' (renI k x) = f x) : badOf f' o' = badOf f o := by
  have e3 : (renI k o.pair != -1) = (o.pair != -1) := by
    have := renI_beq (y := -1) hk h.d2 (by omega)
    rw [renI_neg] at this
    rw [bne, bne, this]
  have e0 : decide (renI k o.id < 0) = decide (o.id < 0) := by
    have := h.d0
    have := h.d1
    have h2 : ¬ renI k o.id < 0 := by
      unfold renI
      split <;> omega
    rw [decide_eq_false (show ¬ o.id < 0 by omega), decide_eq_false h2]
  unfold badOf
  rw [h.id, h.pair, h.fence, h.load, h.store, ren_may h, hf _ h.d1, hf _ h.d2, e0, e3]
theorem ren_good {l l' : List OpS} (h : RenL k l l') : ∀ {f f' : Int → Option Bool}, (∀ x, x ≤ 1000 → f' (renI k x) = f x) → goodFrom f' l' = goodFrom f l := by
  induction h with
  | nil => intro f f' _; rfl
  | @cons o o' l l' g1 g2 ih =>
    intro f f' hf
    unfold goodFrom
    rw [ren_bad hk g1 hf]
    split
    · rfl
    · refine ih (fun x hx => ?_)
      unfold mapPut
      rw [g1.id, g1.load]
      by_cases hxi : x = o.id
      · rw [if_pos hxi, if_pos (by rw [hxi])]
      · rw [if_neg hxi, if_neg (fun e => hxi ((renI_inj hk hx g1.d1).1 e)), hf x hx]
end
end Go.Proofs.Ytdfapbfpmjbnhaa.Hand
