/- DERIVED. DERIVED. The whole walk of the law OrderMore. -/
import Derived.Test.YtdfapbfpmjbnhaaProg
import Derived.Test.YtdfapbfpmjbnhaaMBits
import Derived.Test.YtdfapbfpmjbnhaaMWalk
import Derived.Test.YtdfapbfpmjbnhaaMArg
import Derived.Test.YtdfapbfpmjbnhaaMRow
import Derived.Test.YtdfapbfpmjbnhaaMOpen
import Derived.Test.YtdfapbfpmjbnhaaMPart
import Derived.Test.YtdfapbfpmjbnhaaMGoMap
import Derived.Test.YtdfapbfpmjbnhaaMQOne
import Derived.Test.YtdfapbfpmjbnhaaHL
import Derived.Below
import Derived.Deep.Draws
import Derived.Deep.AppendLies
import Derived.Maps.AppendAt
import Derived.OwnWalk
import Derived.Laws.BytesArg
import Derived.Laws.MakeOwn
import Derived.Laws.OwnMore
import Derived.Deep.OwnRows
import Derived.Tactics
import Derived.Lib.ConvBytes
import Derived.Laws.Slices
import Derived.WalkKit
import Derived.KernelRfl
import Derived.RowKit3
import Derived.Deep.LoopGhost
import Derived.Deep.QuietTactic
import Derived.BigQuiet
import Derived.WideLaws
import Derived.Deep.DeepCutAuto
import Derived.Deep.CutBlock
import Derived.Deep.RegionHeld3
import Derived.Laws.Rows
import Derived.Lib.AppendStr
import Derived.ArgAppend
import Derived.Laws.IdiomCopy
import Derived.OrdersHeld
import Derived.Laws.BitsLemmas
import Derived.Laws.Bits64
import Derived.RowKit
import Derived.Outline
import Derived.Handy
import Derived.Lib.Hide
import Derived.Deep.Light
import Derived.Laws.CopyOwn
import Derived.Laws.AppendOwnNone
import Derived.RangeFuncNested
import Derived.RangeFuncBound
import Derived.RangeFuncCalls
import Derived.RangeFuncLeaves
import Derived.Shelf.Abstract
import Derived.Shelf.RegionOpen
import Derived.OwnWalkIn
import Derived.TacticsInMore
import Derived.LoopNIn
import Derived.LoopIn
import Derived.Maps.OwnIn
import Derived.Deep.WholeRow
namespace Go.Proofs.Ytdfapbfpmjbnhaa.Hand
open Go Go.RowKit Go.Proofs.Ytdfapbfpmjbnhaa.M
set_option linter.unusedVariables false
set_option linter.unusedSimpArgs false
attribute [local go_sem] Oper.semAt_some
theorem any_more {P : OpS → Bool} {A B : List OpS} {f : OpS} (h : (A ++ B).any P = true) : (A ++ f :: B).any P = true := by
  simp only [List.any_append, List.any_cons, Bool.or_eq_true] at *
  rcases h with h | h
  · exact .inl h
  · exact .inr (.inr h)
theorem apart_more (a b f : OpS) (A B : List OpS) (hf : f.store = false) : apartOf a b (A ++ f :: B) = apartOf a b (A ++ B) := by
  have h : ∀ x, (A ++ f :: B).any (storeHas · x) = (A ++ B).any (storeHas · x) := fun x => by
    simp [List.any_append, List.any_cons, storeHas, hf]
  unfold apartOf
  congr 1
  funext p
  unfold metB
  simp only [h]
theorem ite_more {c : Prop} [Decidable c] {x y x' y' : Bool} (h1 : x = true → x' = true) (h2 : y = true → y' = true) : (if c then x else y) = true → (if c then x' else y') = true := by
  split
  · exact h1
  · exact h2
/-- One more between that stores nothing: what held, holds. -/
theorem holds_more {a b f : OpS} {A B : List OpS} {n : Int} (hf : f.store = false) : holdsOf a b (A ++ B) n = true → holdsOf a b (A ++ f :: B) n = true := by
  unfold holdsOf
  rw [apart_more a b f A B hf]
  refine ite_more id (ite_more id (ite_more id (ite_more any_more (ite_more id (ite_more id (ite_more id (ite_more id (ite_more id (ite_more id (ite_more id (ite_more any_more (ite_more ?_ id))))))))))))
  intro h
  rw [Bool.and_eq_true] at *
  exact ⟨h.1, any_more h.2⟩
theorem between_cut (X Y : List OpS) (p q : Nat) (h1 : p < X.length) (h2 : X.length ≤ q) : betweenOf (X ++ Y) p q = X.drop (p + 1) ++ Y.take (q - X.length) := by
  unfold betweenOf
  rw [List.drop_append_of_le_length (by omega), List.take_append, List.take_of_length_le (by simp; omega), List.length_drop]
  congr 2
  omega
/-- What held of two with a fence less. -/
theorem rules_more (X Y : List OpS) (f : OpS) (p q : Nat) (hf : f.store = false) (h1 : p < X.length) (h2 : X.length ≤ q) (h3 : q < (X ++ Y).length) : ∀ r ∈ rulesOf (X ++ Y) p q, r ∈ rulesOf (X ++ f :: Y) p ((q : Int) + 1) := by
  intro r hr
  have hl : (X ++ Y).length = X.length + Y.length := List.length_append
  have e1 := rulesOf_at (X ++ Y) p q (by omega) h3 (by omega)
  have e2 := rulesOf_at (X ++ f :: Y) p (q + 1) (by omega) (by simp; omega) (by simp; omega)
  rw [show ((q + 1 : Nat) : Int) = (q : Int) + 1 by omega] at e2
  rw [e1] at hr
  rw [e2]
  have g1 : (X ++ f :: Y)[p]'(by simp; omega) = (X ++ Y)[p]'(by omega) := by
    rw [List.getElem_append_left h1, List.getElem_append_left h1]
  have g2 : (X ++ f :: Y)[q + 1]'(by simp; omega) = (X ++ Y)[q]'h3 := by
    rw [List.getElem_append_right (by omega), List.getElem_append_right (by omega)]
    simp only [show q + 1 - X.length = q - X.length + 1 by omega, List.getElem_cons_succ]
  rw [g1, g2]
  unfold rulesAt at *
  rw [between_cut X Y p q h1 h2] at hr
  rw [between_cut X (f :: Y) p (q + 1) h1 (by omega), show q + 1 - X.length = q - X.length + 1 by omega, List.take_succ_cons]
  split at hr
  · rename_i ht
    rw [if_pos ht]
    rw [List.mem_filter] at *
    exact ⟨hr.1, holds_more hf hr.2⟩
  · cases hr
theorem side3 (o : OpS) (h : touchB o = true) : sideOf 3 o = true := by
  have e2 : bitB 3 2 = true := by kernel_rfl
  have e1 : bitB 3 1 = true := by kernel_rfl
  unfold touchB at h
  unfold sideOf
  rw [e1, e2]
  simp only [Bool.and_true, Bool.and_eq_true] at *
  exact h.2
theorem rule_more (X Y : List OpS) (f : OpS) (p q : Nat) (hf : f.fence = true) (hp : f.pred = 3) (hs : f.succ = 3) (h1 : p < X.length) (h2 : X.length ≤ q) (h3 : q < (X ++ Y).length) (ha : touchB ((X ++ Y)[p]'(by simp; omega)) = true) (hb : touchB ((X ++ Y)[q]'h3) = true) : ruleOf (X ++ f :: Y) p ((q : Int) + 1) ≠ 0 := by
  have hl : (X ++ Y).length = X.length + Y.length := List.length_append
  have e2 := rulesOf_at (X ++ f :: Y) p (q + 1) (by omega) (by simp; omega) (by simp; omega)
  rw [show ((q + 1 : Nat) : Int) = (q : Int) + 1 by omega] at e2
  have g1 : (X ++ f :: Y)[p]'(by simp; omega) = (X ++ Y)[p]'(by omega) := by
    rw [List.getElem_append_left h1, List.getElem_append_left h1]
  have g2 : (X ++ f :: Y)[q + 1]'(by simp; omega) = (X ++ Y)[q]'h3 := by
    rw [List.getElem_append_right (by omega), List.getElem_append_right (by omega)]
    simp only [show q + 1 - X.length = q - X.length + 1 by omega, List.getElem_cons_succ]
  unfold ruleOf
  rw [e2, g1, g2]
  generalize (X ++ Y)[p]'(by omega) = a at *
  generalize (X ++ Y)[q]'h3 = b at *
  unfold rulesAt
  rw [between_cut X (f :: Y) p (q + 1) h1 (by omega), show q + 1 - X.length = q - X.length + 1 by omega, List.take_succ_cons, ha, hb, Bool.and_self, if_pos rfl]
  have h4 : (4 : Int) ∈ allRules.filter (holdsOf a b (X.drop (p + 1) ++ f :: Y.take (q - X.length))) := by
    rw [List.mem_filter]
    refine ⟨by decide, ?_⟩
    show List.any _ (fourB a b) = true
    rw [List.any_append, List.any_cons]
    have : fourB a b f = true := by
      unfold fourB
      rw [hf, hp, hs, side3 a ha, side3 b hb]; rfl
    rw [this]; simp
  have h5 : ∀ x ∈ allRules.filter (holdsOf a b (X.drop (p + 1) ++ f :: Y.take (q - X.length))), x ≠ 0 := fun x hx => by
    have h6 := (List.mem_filter.1 hx).1
    intro e
    subst e
    revert h6
    decide
  generalize allRules.filter (holdsOf a b (X.drop (p + 1) ++ f :: Y.take (q - X.length))) = L at *
  cases L with
  | nil => cases h4
  | cons x L => exact h5 x (by simp)
/-- The fence that comes between. -/
def fenceF (pred succ : Int) : OpS := ⟨-1, false, false, true, 0, 0, false, false, pred, succ, 0, 0, noSl, -1, noSl, noSl, noSl⟩
theorem fenceF_at (p q : Int) (w : World) : (fenceF p q).At w := ⟨noSl_at w, noSl_at w, noSl_at w, noSl_at w, U64.mk (n := 0) (by omega), I64.of_wf (by kernel_rfl)⟩
set_option maxHeartbeats 4000000 in
theorem more_none (s : OSl) (a p q : Int) (w : World) (hS : s.At w) (hN : lightOf s = false) :
    Calls Try.prog 3 #[s.v, .int .i64 a, .int .i64 p, .int .i64 q] w fun e w' => e = .returned (.bool true) ∧ Below w.heap.size w w' := by
  have HD := Lib.hid (Below.refl w.heap.size w)
  have L1 : Hid (∀ W, Below w.heap.size w W → Calls Try.prog 6 #[s.v] W fun e w' => e = .returned (.bool false) ∧ Below W.heap.size W w') := Lib.hid fun W d => hN ▸ Light_any s W (hS.below d)
  generalize s.v = sv at *
  clear hS hN
  go_enter Try.func3, Try.ntmps3
  go_wp2_with (first
      | (go_at_call 6; refine (L1.out _ HD.out).mono ?_; clear L1; rintro e W ⟨rfl, dd⟩; replace HD := Lib.hid (HD.out.trans (dd.mono HD.out.size)); clear dd)
      | (go_at_call 7; refine (lives_any _).mono ?_; rintro e W ⟨rfl, dd⟩; replace HD := Lib.hid (HD.out.trans (dd.mono HD.out.size)); clear dd))
  go_ret
  exact ⟨rfl, HD.out⟩
theorem OW.start' {G X : World} (d : Below G.heap.size G X) : OW G (X.alloc (.cells #[] 29)) (.slice (some ⟨X.heap.size, 0, none⟩) 0 0) [] :=
  ⟨World.ownsRow_lit X #[] 0 d.size (Nat.zero_le _) rfl, d.alloc d.size _⟩
theorem OW.below {G W W' : World} {v : Value} {l : List OpS} (H : OW G W v l) (d : Below W.heap.size W W') : OW G W' v l :=
  ⟨World.ownsRow.kept H.own (grown_of_below d) (by cases hb : v.ownBlock with | none => exact .inl rfl | some k => exact .inr (by simp)), H.d.trans (d.mono H.d.size)⟩
theorem one_at {W : World} {g : Nat} {p q : Int} (B : Blk W g (fenceF p q).cells 29) : (⟨some ⟨g, 0, none⟩, 1, 1, [fenceF p q]⟩ : OSl).At W :=
  ⟨fun _ => ⟨_, rfl, B.lt, fun k o hk => by
    match k, hk with
    | 0, hk =>
      injection hk with e
      subst e
      exact B.cellsAt (o := 0) fun j v hv => by rw [Nat.zero_add]; exact hv
    | k + 1, hk => simp at hk⟩, rfl, by show 1 ≤ _; omega, fun o ho => by
    rw [List.mem_singleton.1 ho]; exact fenceF_at _ _ _⟩
theorem blk_grown {W W' : World} {g T : Nat} {cs : Array Value} {r : Option Nat} (B : Blk W g cs T) (h : W.grownBy W' r) (hne : r ≠ some g) : Blk W' g cs T := (h.block g B.lt (fun e => hne e.symm)).trans B
def leftOf (s : OSl) (k : Nat) : OSl := ⟨s.a, k, s.c, s.l.take k⟩
theorem left_at {w : World} {s : OSl} (h : s.At w) {k : Nat} (hk : k ≤ s.n) : (leftOf s k).At w := by
  have hn := h.n
  have hm := h.m
  refine ⟨fun hne => ?_, by simp [leftOf]; omega, by show k ≤ _; omega, fun o ho => h.o o (List.mem_of_mem_take ho)⟩
  obtain ⟨ad, e, h3, h4⟩ := h.r (fun e => hne (by simp [leftOf, e]))
  refine ⟨ad, e, h3, fun j o hj => h4 j o ?_⟩
  unfold leftOf at hj
  dsimp only at hj
  rw [List.getElem?_take] at hj
  split at hj
  · exact hj
  · cases hj
def rightOf (s : OSl) (k : Nat) : OSl := ⟨if s.c = k then s.a else s.a.map (fun a => a.add (k * 17)), s.n - k, s.c - k, s.l.drop k⟩
theorem right_at {w : World} {s : OSl} (h : s.At w) (hc : s.n ≤ s.c) {k : Nat} (hk : k ≤ s.n) : (rightOf s k).At w := by
  have hn := h.n
  have hm := h.m
  refine ⟨fun hne => ?_, by simp [rightOf]; omega, by show s.n - k ≤ _; omega, fun o ho => h.o o (List.mem_of_mem_drop ho)⟩
  have hlt : k < s.n := by
    rcases Nat.lt_or_ge k s.n with h1 | h1
    · exact h1
    · exact absurd (List.drop_of_length_le (by omega)) hne
  obtain ⟨ad, e, h3, h4⟩ := h.r (fun e => by rw [e] at hn; simp at hn; omega)
  refine ⟨ad.add (k * 17), by unfold rightOf; rw [if_neg (by omega), e]; rfl, by rw [block_add]; exact h3, fun j o hj => ?_⟩
  have hj2 : s.l[k + j]? = some o := by
    unfold rightOf at hj
    dsimp only at hj
    rw [List.getElem?_drop] at hj; exact hj
  rw [addr_add, show k * 17 + j * 17 = (k + j) * 17 by omega]
  exact h4 _ _ hj2
theorem right_nil {s : OSl} {k : Nat} (z : s.a = none → s.n = 0 ∧ s.c = 0) (h : (rightOf s k).a = none) : (rightOf s k).n = 0 ∧ (rightOf s k).c = 0 := by
  have : s.a = none := by
    unfold rightOf at h
    dsimp only at h
    split at h
    · exact h
    · simpa using h
  obtain ⟨z1, z2⟩ := z this
  unfold rightOf
  dsimp only
  omega
theorem at_cut (a : Int) (n : Nat) (h : n ≤ 60) : ∃ k : Nat, k ≤ n ∧ wrap64 ((IntKind.u64.wrap a).tmod (↑n + 1)) = k := by
  have h0 : 0 ≤ IntKind.u64.wrap a := by rw [u64w]; omega
  have h1 := Int.emod_nonneg (IntKind.u64.wrap a) (show (n : Int) + 1 ≠ 0 by omega)
  have h2 := Int.emod_lt_of_pos (IntKind.u64.wrap a) (show (0 : Int) < n + 1 by omega)
  rw [Int.tmod_eq_emod_of_nonneg h0]
  refine ⟨((IntKind.u64.wrap a) % (↑n + 1)).toNat, by omega, ?_⟩
  unfold wrap64
  omega
theorem wpList_store_i64 {P : Program} {ops : Array Oper} {rest : List Oper} {op : Oper} {a : Act} {w : World} {Q : Exit → Act → World → Prop} (hgd : op.guard = none) (ty : TypeId) (x y : Operand) (ho : op.op = .store ty x y)
    (b i : Nat) (v : Int) (hx : a.eval x = .pointer (some ⟨b, i, none⟩)) (hy : a.eval y = .int .i64 v) (cs : Array Value) (T : Nat) (B : Blk w b cs T) (hi : i < cs.size) (hn : (P.info? ty).map (·.size) = some 1)
    (h : wpList P ops Q rest (a.put op.dst undef) (w.setCell ⟨b, i, none⟩ (.int .i64 v))) : wpList P ops Q (op :: rest) a w := by
  refine wpList_plain hgd fun K hK => ?_
  have hc : w.cell? ⟨b, i, none⟩ = some cs[i] := (B.cell i).trans (Array.getElem?_eq_getElem hi)
  have hf := B.frozen i
  have e : (storeVar ty ⟨b, i, none⟩ (.int .i64 v)).run P w = .ok () (w.setCell ⟨b, i, none⟩ (.int .i64 v)) := by
    cases hq : P.info? ty with
    | none => simp [hq] at hn
    | some t =>
      have ht : t.size = 1 := by simpa [hq] using hn
      have h0 : ∀ j, j < [Value.int .i64 v].length → j = 0 := fun j hj => by simpa using hj
      have := run_storeCells_cells (P := P) b i [.int .i64 v] 0 w (fun j hj => by obtain rfl := h0 j hj; simp [hc]) (fun j hj => by obtain rfl := h0 j hj; simpa using hf) (fun u hu => by obtain rfl : u = .int .i64 v := (by simpa using hu); rfl)
      simp only [Nat.add_zero] at this
      simp [storeVar, sizeOf, typeInfo, hq, Value.cells, ht, this, World.setCells]
  unfold Oper.wp execOp
  simp only [ho, hx, hy, Instr.storeAt, Instr.sureAddr, Sem.run_bind, Sem.run_pure, Result.andThen_ok, e]
  exact hK _ _ h
theorem i64_info : (Try.prog.info? 3).map (·.size) = some 1 := by kernel_rfl
theorem grown_cell (W : World) (b i : Nat) (u : Value) : W.grownBy (W.setCell ⟨b, i, none⟩ u) (some b) :=
  ⟨rfl, rfl, rfl, by simp [World.setCell], fun j hj hne => Below.heap_setCell W ⟨b, i, none⟩ u j (fun e => hne (by rw [e]))⟩
theorem OW.cell {G W : World} {v : Value} {l : List OpS} (H : OW G W v l) {b i : Nat} (hb : b < G.heap.size) (u : Value) : OwnOps (W.setCell ⟨b, i, none⟩ u) G.heap.size v l :=
  World.ownsRow.kept H.own (grown_cell W b i u) (by
    cases hv : v.ownBlock with
    | none => exact .inl rfl
    | some k => exact .inr (fun e => by injection e with e; have := (H.own.lt k hv).1; omega))
theorem own_cell {W : World} {base : Nat} {v : Value} {l : List OpS} (H : OwnOps W base v l) {b i : Nat} (hb : b < base) (u : Value) : OwnOps (W.setCell ⟨b, i, none⟩ u) base v l :=
  World.ownsRow.kept H (grown_cell W b i u) (by
    cases hv : v.ownBlock with
    | none => exact .inl rfl
    | some k => exact .inr (fun e => by injection e with e; have := (World.ownsRow.lt H k hv).1; omega))
theorem own_below {W W' : World} {base : Nat} {v : Value} {l : List OpS} (H : OwnOps W base v l) (d : Below W.heap.size W W') : OwnOps W' base v l :=
  World.ownsRow.kept H (grown_of_below d) (by cases hb : v.ownBlock with | none => exact .inl rfl | some k => exact .inr (by simp))
theorem below_cell {w W : World} {b i : Nat} (d : Below w.heap.size w W) (hb : w.heap.size ≤ b) (u : Value) : Below w.heap.size w (W.setCell ⟨b, i, none⟩ u) :=
  d.grown (grown_cell W b i u) d.size (fun k e => by injection e with e; omega)
theorem rules_fence (l : List OpS) (k x y : Nat) (p q : Int) (h1 : x < k) (h2 : k ≤ y) (h3 : y < l.length) : ∀ r ∈ rulesOf l x y, r ∈ rulesOf (l.take k ++ [fenceF p q] ++ l.drop k) x ((y : Int) + 1) := by
  have e : l.take k ++ l.drop k = l := List.take_append_drop k l
  have hk : (l.take k).length = k := by rw [List.length_take]; omega
  have := rules_more (l.take k) (l.drop k) (fenceF p q) x y rfl (by omega) (by omega) (by rw [e]; exact h3)
  rw [e] at this
  rw [List.append_assoc]
  exact this
theorem rule_fence (l : List OpS) (k x y : Nat) (h1 : x < k) (h2 : k ≤ y) (h3 : y < l.length) (h4 : x < l.length) (ha : touchB l[x] = true) (hb : touchB l[y] = true) : ruleOf (l.take k ++ [fenceF 3 3] ++ l.drop k) x ((y : Int) + 1) ≠ 0 := by
  have e : l.take k ++ l.drop k = l := List.take_append_drop k l
  have hk : (l.take k).length = k := by rw [List.length_take]; omega
  have := rule_more (l.take k) (l.drop k) (fenceF 3 3) x y rfl rfl rfl (by omega) (by omega) (by rw [e]; exact h3) (by simp only [e]; exact ha) (by simp only [e]; exact hb)
  rw [List.append_assoc]
  exact this
theorem more_ops {w : World} {s : OSl} (h : s.At w) (k : Nat) (p q : Int) : ∀ o ∈ s.l.take k ++ [fenceF p q] ++ s.l.drop k, o.At w := fun o ho => by
  rcases List.mem_append.1 ho with ho | ho
  · rcases List.mem_append.1 ho with ho | ho
    · exact h.o o (List.mem_of_mem_take ho)
    · rw [List.mem_singleton.1 ho]; exact fenceF_at _ _ _
  · exact h.o o (List.mem_of_mem_drop ho)
theorem in_of_mem {l : List Int} {x : Int} (h : x ∈ l) : inOf l x = true := List.any_eq_true.2 ⟨x, h, by simp⟩
set_option maxRecDepth 100000 in
set_option maxHeartbeats 8000000 in
theorem more_some (s : OSl) (a p q : Int) (w : World) (hS : s.At w) (cS : s.n ≤ s.c) (zS : s.a = none → s.n = 0 ∧ s.c = 0) (b1 : lightOf s = true) :
    Calls Try.prog 3 #[s.v, .int .i64 a, .int .i64 p, .int .i64 q] w fun e w' => e = .returned (.bool true) ∧ Below w.heap.size w w' := by
  have HD := Lib.hid (Below.refl w.heap.size w)
  have L1 : Hid (∀ W, Below w.heap.size w W → Calls Try.prog 6 #[s.v] W fun e w' => e = .returned (.bool true) ∧ Below W.heap.size W w') := Lib.hid fun W d => b1 ▸ Light_any s W (hS.below d)
  have m1 := light_n b1
  have HS := Lib.hid hS
  have l1 := hS.n
  have ZS := Lib.hid zS
  clear hS zS b1
  obtain ⟨k, hk, ek⟩ := at_cut a s.n m1
  replace ek := Lib.hid ek
  show Calls Try.prog 3 #[.slice s.a s.n s.c, .int .i64 a, .int .i64 p, .int .i64 q] w _
  go_enter Try.func3, Try.ntmps3
  go_upto_region 5 with (first
      | (go_at_call 6; refine (L1.out _ HD.out).mono ?_; clear L1; rintro e G ⟨rfl, dd⟩; replace HD := Lib.hid (HD.out.trans (dd.mono HD.out.size)); have hwg := HD.out.size; clear dd)
      | (refine wpList_store_row rfl 29 _ _ rfl G.heap.size (fenceF p q).cells rfl rfl 29 _ (Blk.new _ _ _) op_info (OpS.len' _).symm (OpS.one _) ?_; (generalize hZ : World.setRow _ _ _ = Z1; rw [World.setRow_alloc_new] at hZ; obtain ⟨b1, d1, s1⟩ := arg_box hZ; clear hZ)))
  rw [ek.out]
  simp only [Act.put]
  clear ek
  have g0 : decide ((k : Int) < 0) = false := by simp
  have hkc : k ≤ s.c := by omega
  have hkn : (k : Int) ≤ s.n := by omega
  replace d1 := Lib.hid d1
  replace HD := Lib.hid (HD.out.trans (d1.out.mono HD.out.size))
  replace b1 := Lib.hid b1
  go_cut [11] from 36 to 47 (fun v wx => OW Z1 wx v (s.l.take k ++ [fenceF p q] ++ s.l.drop k))
  case first =>
    obtain ⟨sA, sN, sC, sL⟩ := s
    dsimp only at *
    by_cases hck : k = sC
    · subst hck
      obtain rfl : k = sN := by omega
      have cF : ∀ d os, CellsAt (Sort.grow (redrawn Z1 d) os) ⟨G.heap.size, 0, none⟩ (fenceF p q).cells := fun d os => (b1.out.below (below_regrown Z1 d os)).cellsAt (o := 0) fun j v hv => by rw [Nat.zero_add]; exact hv
      replace cF := Lib.hid cF
      refine wp_region_picks [1, 2, 3, 5, 8, 9, 10] [{ dst := some 37, op := Op.move (Operand.tmp 0), type := 22, pos := "law.go:58", after := #[], guard := none }, { dst := some 38, op := Op.move (Operand.tmp 9), type := 3, pos := "law.go:58", after := #[], guard := none }, { dst := some 39, op := Op.slice 22 (Operand.tmp 37) none (some (Operand.tmp 38)) none, type := 22, pos := "law.go:58", after := #[{ on := 1, ground := Ground.data }, { on := 2, ground := Ground.data }], guard := none }, { dst := some 41, op := Op.load 29 (Operand.tmp 10), type := 29, pos := "law.go:58", after := #[], guard := none }, { dst := some 44, op := Op.move (Operand.tmp 0), type := 22, pos := "law.go:58", after := #[], guard := none }, { dst := some 45, op := Op.move (Operand.tmp 9), type := 3, pos := "law.go:58", after := #[], guard := none }, { dst := some 46, op := Op.slice 22 (Operand.tmp 44) (some (Operand.tmp 45)) none none, type := 22, pos := "law.go:58", after := #[{ on := 8, ground := Ground.data }, { on := 9, ground := Ground.data }], guard := none }] rfl (by kernel_rfl) (by decide) (by kernel_rfl) (by kernel_rfl) (by kernel_rfl) (fun _ _ _ _ _ h => h) ?_
      go_big_quiet_step (fail)
      go_big_quiet_step (fail)
      go_big_quiet_step (fail)
      refine wpQuiet_load rfl 29 _ rfl ⟨G.heap.size, 0, none⟩ rfl #[.int .i64 (-1), .bool false, .bool false, .bool true, .int .u64 0, .int .i64 0, .bool false, .bool false, .int .i64 p, .int .i64 q, .int .u64 0, .int .u64 0, .slice none 0 0, .int .i64 (-1), .slice none 0 0, .slice none 0 0, .slice none 0 0] _ (fun V hV => by obtain ⟨⟨dq, osq⟩, rfl⟩ := hV; exact cF.out _ _) Try.underlying29 rfl op_info ?_
      simp only [Act.put, List.setIfInBounds_toArray, List.set_cons_succ, List.set_cons_zero]
      repeat go_big_quiet_step (fail)
      refine wpQuiet_nil ?_
      intro _ hw'
      obtain ⟨⟨dq, osq⟩, hw''⟩ := hw'
      subst hw''
      show wpAnyH Try.prog .any _ _ _ 6 _ _ _
      have bG := below_regrown Z1 dq osq
      generalize Sort.grow (redrawn Z1 dq) osq = G1 at *
      refine wpAnyH_all (rs := [0, 6]) (by kernel_rfl) (by simp) ?_
      intro kk hkk
      simp only [List.mem_cons, List.not_mem_nil, or_false] at hkk
      rcases hkk with rfl | rfl
      · refine wpOp_of_list rfl ?_
        go_wp2_with fail
        have O0 := Lib.hid (OW.start' bG)
        generalize hY : World.alloc G1 _ = W1 at *
        refine thenK_intro ?_
        refine ⟨regrown_of_below O0.out.d, ?_⟩
        try simp only [List.getElem_toArray, List.getElem_cons_succ, List.getElem_cons_zero, Act.put, List.setIfInBounds_toArray, List.set_cons_succ, List.set_cons_zero]
        refine wpAnyH_all (rs := [4, 6]) (by kernel_rfl) (by simp) ?_
        intro kk hkk
        simp only [List.mem_cons, List.not_mem_nil, or_false] at hkk
        rcases hkk with rfl | rfl
        · refine wpOp_of_list rfl ?_
          refine append_ops rfl (.tmp 36) (.tmp 39) rfl Z1.heap.size _ [] rfl O0.out.own (leftOf ⟨sA, k, k, sL⟩ k) rfl (left_at (HS.out.below (HD.out.trans (O0.out.d.mono HD.out.size))) hk) (fun e => ⟨by have := (ZS.out e).1; show k = 0; omega, (ZS.out e).2⟩) (by simp [leftOf]; omega) O0.out.d.size ?_
          intro v4 W2 o1 g1
          refine wpList_thenK ?_
          have O4 := Lib.hid (O0.out.more o1 g1)
          refine ⟨regrown_of_below O4.out.d, ?_⟩
          skip
          clear o1 g1
          try simp only [List.getElem_toArray, List.getElem_cons_succ, List.getElem_cons_zero, Act.put, List.setIfInBounds_toArray, List.set_cons_succ, List.set_cons_zero]
          refine wpAnyH_all (rs := [6]) (by kernel_rfl) (by simp) ?_
          intro kk hkk
          simp only [List.mem_singleton] at hkk
          subst hkk
          refine wpOp_of_list rfl ?_
          go_wp2_with fail
          generalize hY : World.alloc W2 _ = W3 at *
          obtain ⟨bB, dB, _⟩ := arg_box (cs := (fenceF p q).cells) hY
          replace bB := Lib.hid bB
          replace dB := Lib.hid dB
          refine thenK_intro ?_
          have O5 := Lib.hid (O4.out.below dB.out)
          refine ⟨regrown_of_below O5.out.d, ?_⟩
          try simp only [List.getElem_toArray, List.getElem_cons_succ, List.getElem_cons_zero, Act.put, List.setIfInBounds_toArray, List.set_cons_succ, List.set_cons_zero]
          refine wpAnyH_all (rs := [7]) (by kernel_rfl) (by simp) ?_
          intro kk hkk
          simp only [List.mem_singleton] at hkk
          subst hkk
          refine wpOp_of_list rfl ?_
          refine append_ops rfl (.tmp 40) (.tmp 42) rfl Z1.heap.size _ _ rfl O5.out.own ⟨some ⟨W2.heap.size, 0, none⟩, 1, 1, [fenceF p q]⟩ rfl (one_at bB.out) (by intro h; cases h) (by simp [leftOf]; omega) O5.out.d.size ?_
          intro v7 W7 o1 g1
          refine wpList_thenK ?_
          have O7 := Lib.hid (O5.out.more o1 g1)
          refine ⟨regrown_of_below O7.out.d, ?_⟩
          clear o1 g1
          try simp only [List.getElem_toArray, List.getElem_cons_succ, List.getElem_cons_zero, Act.put, List.setIfInBounds_toArray, List.set_cons_succ, List.set_cons_zero]
          refine wpAnyH_all (rs := [11]) (by kernel_rfl) (by simp) ?_
          intro kk hkk
          simp only [List.mem_singleton] at hkk
          subst hkk
          refine wpOp_of_list rfl ?_
          refine append_ops rfl (.tmp 43) (.tmp 46) rfl Z1.heap.size _ _ rfl O7.out.own (⟨sA, 0, 0, []⟩) (rfl) (⟨fun h => absurd rfl h, rfl, by show 0 ≤ _; omega, fun o ho => by cases ho⟩) (fun _ => ⟨rfl, rfl⟩) (by simp [leftOf, rightOf]; omega) O7.out.d.size ?_
          intro v8 W8 o1 g1
          refine wpList_thenK ?_
          have O8 := Lib.hid (O7.out.more o1 g1)
          refine ⟨regrown_of_below O8.out.d, ?_⟩
          clear o1 g1
          try simp only [List.getElem_toArray, List.getElem_cons_succ, List.getElem_cons_zero, Act.put, List.setIfInBounds_toArray, List.set_cons_succ, List.set_cons_zero]
          refine wpAnyH_take (i := 12) (v := v8) rfl (by kernel_rfl) (by kernel_rfl) (by kernel_rfl) (fun _ _ _ h => h) (.inl ⟨rfl, fun V hV => rfl⟩) (regrown_of_below O8.out.d) ?_
          try simp only [List.getElem_toArray, List.getElem_cons_succ, List.getElem_cons_zero, Act.put, List.setIfInBounds_toArray, List.set_cons_succ, List.set_cons_zero]
          refine wpAnyH_done (by kernel_rfl) ?_ _
          go_wp2_with fail
          go_meet
          case rel => (have hz : sL.drop k = [] := List.drop_of_length_le (by omega)); rw [hz]; exact O8.out
        · have hsz : G1.heap.size < W1.heap.size := by rw [← hY, World.size_alloc]; omega
          refine wpOp_of_list rfl ?_
          go_wp2_with fail
          generalize hY : World.alloc W1 _ = W2 at *
          obtain ⟨bB, dB, _⟩ := arg_box (cs := (fenceF p q).cells) hY
          replace bB := Lib.hid bB
          replace dB := Lib.hid dB
          refine thenK_intro ?_
          have O5 := Lib.hid (O0.out.below dB.out)
          refine ⟨regrown_of_below O5.out.d, ?_⟩
          try simp only [List.getElem_toArray, List.getElem_cons_succ, List.getElem_cons_zero, Act.put, List.setIfInBounds_toArray, List.set_cons_succ, List.set_cons_zero]
          refine wpAnyH_all (rs := [4]) (by kernel_rfl) (by simp) ?_
          intro kk hkk
          simp only [List.mem_singleton] at hkk
          subst hkk
          refine wpOp_of_list rfl ?_
          refine append_ops rfl (.tmp 36) (.tmp 39) rfl Z1.heap.size _ [] rfl O5.out.own (leftOf ⟨sA, k, k, sL⟩ k) rfl (left_at (HS.out.below (HD.out.trans (O5.out.d.mono HD.out.size))) hk) (fun e => ⟨by have := (ZS.out e).1; show k = 0; omega, (ZS.out e).2⟩) (by simp [leftOf]; omega) O5.out.d.size ?_
          intro v4 W3 o1 g1
          refine wpList_thenK ?_
          have O4 := Lib.hid (O5.out.more o1 g1)
          refine ⟨regrown_of_below O4.out.d, ?_⟩
          have b5 := Lib.hid (blk_grown bB.out g1 (by show some G1.heap.size ≠ _; have := hsz; simp; omega))
          clear o1 g1
          try simp only [List.getElem_toArray, List.getElem_cons_succ, List.getElem_cons_zero, Act.put, List.setIfInBounds_toArray, List.set_cons_succ, List.set_cons_zero]
          refine wpAnyH_all (rs := [7]) (by kernel_rfl) (by simp) ?_
          intro kk hkk
          simp only [List.mem_singleton] at hkk
          subst hkk
          refine wpOp_of_list rfl ?_
          refine append_ops rfl (.tmp 40) (.tmp 42) rfl Z1.heap.size _ _ rfl O4.out.own ⟨some ⟨W1.heap.size, 0, none⟩, 1, 1, [fenceF p q]⟩ rfl (one_at b5.out) (by intro h; cases h) (by simp [leftOf]; omega) O4.out.d.size ?_
          intro v7 W7 o1 g1
          refine wpList_thenK ?_
          have O7 := Lib.hid (O4.out.more o1 g1)
          refine ⟨regrown_of_below O7.out.d, ?_⟩
          clear o1 g1
          try simp only [List.getElem_toArray, List.getElem_cons_succ, List.getElem_cons_zero, Act.put, List.setIfInBounds_toArray, List.set_cons_succ, List.set_cons_zero]
          refine wpAnyH_all (rs := [11]) (by kernel_rfl) (by simp) ?_
          intro kk hkk
          simp only [List.mem_singleton] at hkk
          subst hkk
          refine wpOp_of_list rfl ?_
          refine append_ops rfl (.tmp 43) (.tmp 46) rfl Z1.heap.size _ _ rfl O7.out.own (⟨sA, 0, 0, []⟩) (rfl) (⟨fun h => absurd rfl h, rfl, by show 0 ≤ _; omega, fun o ho => by cases ho⟩) (fun _ => ⟨rfl, rfl⟩) (by simp [leftOf, rightOf]; omega) O7.out.d.size ?_
          intro v8 W8 o1 g1
          refine wpList_thenK ?_
          have O8 := Lib.hid (O7.out.more o1 g1)
          refine ⟨regrown_of_below O8.out.d, ?_⟩
          clear o1 g1
          try simp only [List.getElem_toArray, List.getElem_cons_succ, List.getElem_cons_zero, Act.put, List.setIfInBounds_toArray, List.set_cons_succ, List.set_cons_zero]
          refine wpAnyH_take (i := 12) (v := v8) rfl (by kernel_rfl) (by kernel_rfl) (by kernel_rfl) (fun _ _ _ h => h) (.inl ⟨rfl, fun V hV => rfl⟩) (regrown_of_below O8.out.d) ?_
          try simp only [List.getElem_toArray, List.getElem_cons_succ, List.getElem_cons_zero, Act.put, List.setIfInBounds_toArray, List.set_cons_succ, List.set_cons_zero]
          refine wpAnyH_done (by kernel_rfl) ?_ _
          go_wp2_with fail
          go_meet
          case rel => (have hz : sL.drop k = [] := List.drop_of_length_le (by omega)); rw [hz]; exact O8.out
      · refine wpOp_of_list rfl ?_
        go_wp2_with fail
        generalize hY : World.alloc G1 _ = W1 at *
        obtain ⟨bB, dB, _⟩ := arg_box (cs := (fenceF p q).cells) hY
        replace bB := Lib.hid bB
        replace dB := Lib.hid dB
        refine thenK_intro ?_
        have bW := bG.trans (dB.out.mono bG.size)
        refine ⟨regrown_of_below bW, ?_⟩
        have hsz : G1.heap.size < W1.heap.size := by rw [← hY, World.size_alloc]; omega
        try simp only [List.getElem_toArray, List.getElem_cons_succ, List.getElem_cons_zero, Act.put, List.setIfInBounds_toArray, List.set_cons_succ, List.set_cons_zero]
        refine wpAnyH_all (rs := [0]) (by kernel_rfl) (by simp) ?_
        intro kk hkk
        simp only [List.mem_singleton] at hkk
        subst hkk
        refine wpOp_of_list rfl ?_
        clear hY
        go_wp2_with fail
        have O0 := Lib.hid (OW.start' bW)
        generalize hY : World.alloc W1 _ = W2 at *
        refine thenK_intro ?_
        refine ⟨regrown_of_below O0.out.d, ?_⟩
        have b5 := Lib.hid (bB.out.below ((Below.refl _ _).alloc (Nat.le_refl _) (.cells #[] 29)))
        rw [hY] at b5
        try simp only [List.getElem_toArray, List.getElem_cons_succ, List.getElem_cons_zero, Act.put, List.setIfInBounds_toArray, List.set_cons_succ, List.set_cons_zero]
        refine wpAnyH_all (rs := [4]) (by kernel_rfl) (by simp) ?_
        intro kk hkk
        simp only [List.mem_singleton] at hkk
        subst hkk
        refine wpOp_of_list rfl ?_
        refine append_ops rfl (.tmp 36) (.tmp 39) rfl Z1.heap.size _ [] rfl O0.out.own (leftOf ⟨sA, k, k, sL⟩ k) rfl (left_at (HS.out.below (HD.out.trans (O0.out.d.mono HD.out.size))) hk) (fun e => ⟨by have := (ZS.out e).1; show k = 0; omega, (ZS.out e).2⟩) (by simp [leftOf]; omega) O0.out.d.size ?_
        intro v4 W3 o1 g1
        refine wpList_thenK ?_
        have O4 := Lib.hid (O0.out.more o1 g1)
        refine ⟨regrown_of_below O4.out.d, ?_⟩
        have b6 := Lib.hid (blk_grown b5.out g1 (by show some W1.heap.size ≠ _; have := hsz; simp; omega))
        clear o1 g1
        try simp only [List.getElem_toArray, List.getElem_cons_succ, List.getElem_cons_zero, Act.put, List.setIfInBounds_toArray, List.set_cons_succ, List.set_cons_zero]
        refine wpAnyH_all (rs := [7]) (by kernel_rfl) (by simp) ?_
        intro kk hkk
        simp only [List.mem_singleton] at hkk
        subst hkk
        refine wpOp_of_list rfl ?_
        refine append_ops rfl (.tmp 40) (.tmp 42) rfl Z1.heap.size _ _ rfl O4.out.own ⟨some ⟨G1.heap.size, 0, none⟩, 1, 1, [fenceF p q]⟩ rfl (one_at b6.out) (by intro h; cases h) (by simp [leftOf]; omega) O4.out.d.size ?_
        intro v7 W7 o1 g1
        refine wpList_thenK ?_
        have O7 := Lib.hid (O4.out.more o1 g1)
        refine ⟨regrown_of_below O7.out.d, ?_⟩
        clear o1 g1
        try simp only [List.getElem_toArray, List.getElem_cons_succ, List.getElem_cons_zero, Act.put, List.setIfInBounds_toArray, List.set_cons_succ, List.set_cons_zero]
        refine wpAnyH_all (rs := [11]) (by kernel_rfl) (by simp) ?_
        intro kk hkk
        simp only [List.mem_singleton] at hkk
        subst hkk
        refine wpOp_of_list rfl ?_
        refine append_ops rfl (.tmp 43) (.tmp 46) rfl Z1.heap.size _ _ rfl O7.out.own (⟨sA, 0, 0, []⟩) (rfl) (⟨fun h => absurd rfl h, rfl, by show 0 ≤ _; omega, fun o ho => by cases ho⟩) (fun _ => ⟨rfl, rfl⟩) (by simp [leftOf, rightOf]; omega) O7.out.d.size ?_
        intro v8 W8 o1 g1
        refine wpList_thenK ?_
        have O8 := Lib.hid (O7.out.more o1 g1)
        refine ⟨regrown_of_below O8.out.d, ?_⟩
        clear o1 g1
        try simp only [List.getElem_toArray, List.getElem_cons_succ, List.getElem_cons_zero, Act.put, List.setIfInBounds_toArray, List.set_cons_succ, List.set_cons_zero]
        refine wpAnyH_take (i := 12) (v := v8) rfl (by kernel_rfl) (by kernel_rfl) (by kernel_rfl) (fun _ _ _ h => h) (.inl ⟨rfl, fun V hV => rfl⟩) (regrown_of_below O8.out.d) ?_
        try simp only [List.getElem_toArray, List.getElem_cons_succ, List.getElem_cons_zero, Act.put, List.setIfInBounds_toArray, List.set_cons_succ, List.set_cons_zero]
        refine wpAnyH_done (by kernel_rfl) ?_ _
        go_wp2_with fail
        go_meet
        case rel => (have hz : sL.drop k = [] := List.drop_of_length_le (by omega)); rw [hz]; exact O8.out
    · have hck2 : ¬ sC = k := fun e => hck e.symm
      have cF : ∀ d os, CellsAt (Sort.grow (redrawn Z1 d) os) ⟨G.heap.size, 0, none⟩ (fenceF p q).cells := fun d os => (b1.out.below (below_regrown Z1 d os)).cellsAt (o := 0) fun j v hv => by rw [Nat.zero_add]; exact hv
      replace cF := Lib.hid cF
      refine wp_region_picks [1, 2, 3, 5, 8, 9, 10] [{ dst := some 37, op := Op.move (Operand.tmp 0), type := 22, pos := "law.go:58", after := #[], guard := none }, { dst := some 38, op := Op.move (Operand.tmp 9), type := 3, pos := "law.go:58", after := #[], guard := none }, { dst := some 39, op := Op.slice 22 (Operand.tmp 37) none (some (Operand.tmp 38)) none, type := 22, pos := "law.go:58", after := #[{ on := 1, ground := Ground.data }, { on := 2, ground := Ground.data }], guard := none }, { dst := some 41, op := Op.load 29 (Operand.tmp 10), type := 29, pos := "law.go:58", after := #[], guard := none }, { dst := some 44, op := Op.move (Operand.tmp 0), type := 22, pos := "law.go:58", after := #[], guard := none }, { dst := some 45, op := Op.move (Operand.tmp 9), type := 3, pos := "law.go:58", after := #[], guard := none }, { dst := some 46, op := Op.slice 22 (Operand.tmp 44) (some (Operand.tmp 45)) none none, type := 22, pos := "law.go:58", after := #[{ on := 8, ground := Ground.data }, { on := 9, ground := Ground.data }], guard := none }] rfl (by kernel_rfl) (by decide) (by kernel_rfl) (by kernel_rfl) (by kernel_rfl) (fun _ _ _ _ _ h => h) ?_
      go_big_quiet_step (fail)
      go_big_quiet_step (fail)
      go_big_quiet_step (fail)
      refine wpQuiet_load rfl 29 _ rfl ⟨G.heap.size, 0, none⟩ rfl #[.int .i64 (-1), .bool false, .bool false, .bool true, .int .u64 0, .int .i64 0, .bool false, .bool false, .int .i64 p, .int .i64 q, .int .u64 0, .int .u64 0, .slice none 0 0, .int .i64 (-1), .slice none 0 0, .slice none 0 0, .slice none 0 0] _ (fun V hV => by obtain ⟨⟨dq, osq⟩, rfl⟩ := hV; exact cF.out _ _) Try.underlying29 rfl op_info ?_
      simp only [Act.put, List.setIfInBounds_toArray, List.set_cons_succ, List.set_cons_zero]
      repeat go_big_quiet_step (fail)
      refine wpQuiet_nil ?_
      intro _ hw'
      obtain ⟨⟨dq, osq⟩, hw''⟩ := hw'
      subst hw''
      show wpAnyH Try.prog .any _ _ _ 6 _ _ _
      have bG := below_regrown Z1 dq osq
      generalize Sort.grow (redrawn Z1 dq) osq = G1 at *
      refine wpAnyH_all (rs := [0, 6]) (by kernel_rfl) (by simp) ?_
      intro kk hkk
      simp only [List.mem_cons, List.not_mem_nil, or_false] at hkk
      rcases hkk with rfl | rfl
      · refine wpOp_of_list rfl ?_
        go_wp2_with fail
        have O0 := Lib.hid (OW.start' bG)
        generalize hY : World.alloc G1 _ = W1 at *
        refine thenK_intro ?_
        refine ⟨regrown_of_below O0.out.d, ?_⟩
        try simp only [List.getElem_toArray, List.getElem_cons_succ, List.getElem_cons_zero, Act.put, List.setIfInBounds_toArray, List.set_cons_succ, List.set_cons_zero]
        refine wpAnyH_all (rs := [4, 6]) (by kernel_rfl) (by simp) ?_
        intro kk hkk
        simp only [List.mem_cons, List.not_mem_nil, or_false] at hkk
        rcases hkk with rfl | rfl
        · refine wpOp_of_list rfl ?_
          refine append_ops rfl (.tmp 36) (.tmp 39) rfl Z1.heap.size _ [] rfl O0.out.own (leftOf ⟨sA, sN, sC, sL⟩ k) rfl (left_at (HS.out.below (HD.out.trans (O0.out.d.mono HD.out.size))) hk) (fun e => ⟨by have := (ZS.out e).1; show k = 0; omega, (ZS.out e).2⟩) (by simp [leftOf]; omega) O0.out.d.size ?_
          intro v4 W2 o1 g1
          refine wpList_thenK ?_
          have O4 := Lib.hid (O0.out.more o1 g1)
          refine ⟨regrown_of_below O4.out.d, ?_⟩
          skip
          clear o1 g1
          try simp only [List.getElem_toArray, List.getElem_cons_succ, List.getElem_cons_zero, Act.put, List.setIfInBounds_toArray, List.set_cons_succ, List.set_cons_zero]
          refine wpAnyH_all (rs := [6]) (by kernel_rfl) (by simp) ?_
          intro kk hkk
          simp only [List.mem_singleton] at hkk
          subst hkk
          refine wpOp_of_list rfl ?_
          go_wp2_with fail
          generalize hY : World.alloc W2 _ = W3 at *
          obtain ⟨bB, dB, _⟩ := arg_box (cs := (fenceF p q).cells) hY
          replace bB := Lib.hid bB
          replace dB := Lib.hid dB
          refine thenK_intro ?_
          have O5 := Lib.hid (O4.out.below dB.out)
          refine ⟨regrown_of_below O5.out.d, ?_⟩
          try simp only [List.getElem_toArray, List.getElem_cons_succ, List.getElem_cons_zero, Act.put, List.setIfInBounds_toArray, List.set_cons_succ, List.set_cons_zero]
          refine wpAnyH_all (rs := [7]) (by kernel_rfl) (by simp) ?_
          intro kk hkk
          simp only [List.mem_singleton] at hkk
          subst hkk
          refine wpOp_of_list rfl ?_
          refine append_ops rfl (.tmp 40) (.tmp 42) rfl Z1.heap.size _ _ rfl O5.out.own ⟨some ⟨W2.heap.size, 0, none⟩, 1, 1, [fenceF p q]⟩ rfl (one_at bB.out) (by intro h; cases h) (by simp [leftOf]; omega) O5.out.d.size ?_
          intro v7 W7 o1 g1
          refine wpList_thenK ?_
          have O7 := Lib.hid (O5.out.more o1 g1)
          refine ⟨regrown_of_below O7.out.d, ?_⟩
          clear o1 g1
          try simp only [List.getElem_toArray, List.getElem_cons_succ, List.getElem_cons_zero, Act.put, List.setIfInBounds_toArray, List.set_cons_succ, List.set_cons_zero]
          refine wpAnyH_all (rs := [11]) (by kernel_rfl) (by simp) ?_
          intro kk hkk
          simp only [List.mem_singleton] at hkk
          subst hkk
          refine wpOp_of_list rfl ?_
          refine append_ops rfl (.tmp 43) (.tmp 46) rfl Z1.heap.size _ _ rfl O7.out.own (rightOf ⟨sA, sN, sC, sL⟩ k) (by show _ = OSl.v _; unfold OSl.v rightOf; rw [if_neg (fun e => hck e.symm)]; rfl) (right_at (HS.out.below (HD.out.trans (O7.out.d.mono HD.out.size))) cS hk) (right_nil ZS.out) (by simp [leftOf, rightOf]; omega) O7.out.d.size ?_
          intro v8 W8 o1 g1
          refine wpList_thenK ?_
          have O8 := Lib.hid (O7.out.more o1 g1)
          refine ⟨regrown_of_below O8.out.d, ?_⟩
          clear o1 g1
          try simp only [List.getElem_toArray, List.getElem_cons_succ, List.getElem_cons_zero, Act.put, List.setIfInBounds_toArray, List.set_cons_succ, List.set_cons_zero]
          refine wpAnyH_take (i := 12) (v := v8) rfl (by kernel_rfl) (by kernel_rfl) (by kernel_rfl) (fun _ _ _ h => h) (.inl ⟨rfl, fun V hV => rfl⟩) (regrown_of_below O8.out.d) ?_
          try simp only [List.getElem_toArray, List.getElem_cons_succ, List.getElem_cons_zero, Act.put, List.setIfInBounds_toArray, List.set_cons_succ, List.set_cons_zero]
          refine wpAnyH_done (by kernel_rfl) ?_ _
          go_wp2_with fail
          go_meet
          case rel => exact O8.out
        · have hsz : G1.heap.size < W1.heap.size := by rw [← hY, World.size_alloc]; omega
          refine wpOp_of_list rfl ?_
          go_wp2_with fail
          generalize hY : World.alloc W1 _ = W2 at *
          obtain ⟨bB, dB, _⟩ := arg_box (cs := (fenceF p q).cells) hY
          replace bB := Lib.hid bB
          replace dB := Lib.hid dB
          refine thenK_intro ?_
          have O5 := Lib.hid (O0.out.below dB.out)
          refine ⟨regrown_of_below O5.out.d, ?_⟩
          try simp only [List.getElem_toArray, List.getElem_cons_succ, List.getElem_cons_zero, Act.put, List.setIfInBounds_toArray, List.set_cons_succ, List.set_cons_zero]
          refine wpAnyH_all (rs := [4]) (by kernel_rfl) (by simp) ?_
          intro kk hkk
          simp only [List.mem_singleton] at hkk
          subst hkk
          refine wpOp_of_list rfl ?_
          refine append_ops rfl (.tmp 36) (.tmp 39) rfl Z1.heap.size _ [] rfl O5.out.own (leftOf ⟨sA, sN, sC, sL⟩ k) rfl (left_at (HS.out.below (HD.out.trans (O5.out.d.mono HD.out.size))) hk) (fun e => ⟨by have := (ZS.out e).1; show k = 0; omega, (ZS.out e).2⟩) (by simp [leftOf]; omega) O5.out.d.size ?_
          intro v4 W3 o1 g1
          refine wpList_thenK ?_
          have O4 := Lib.hid (O5.out.more o1 g1)
          refine ⟨regrown_of_below O4.out.d, ?_⟩
          have b5 := Lib.hid (blk_grown bB.out g1 (by show some G1.heap.size ≠ _; have := hsz; simp; omega))
          clear o1 g1
          try simp only [List.getElem_toArray, List.getElem_cons_succ, List.getElem_cons_zero, Act.put, List.setIfInBounds_toArray, List.set_cons_succ, List.set_cons_zero]
          refine wpAnyH_all (rs := [7]) (by kernel_rfl) (by simp) ?_
          intro kk hkk
          simp only [List.mem_singleton] at hkk
          subst hkk
          refine wpOp_of_list rfl ?_
          refine append_ops rfl (.tmp 40) (.tmp 42) rfl Z1.heap.size _ _ rfl O4.out.own ⟨some ⟨W1.heap.size, 0, none⟩, 1, 1, [fenceF p q]⟩ rfl (one_at b5.out) (by intro h; cases h) (by simp [leftOf]; omega) O4.out.d.size ?_
          intro v7 W7 o1 g1
          refine wpList_thenK ?_
          have O7 := Lib.hid (O4.out.more o1 g1)
          refine ⟨regrown_of_below O7.out.d, ?_⟩
          clear o1 g1
          try simp only [List.getElem_toArray, List.getElem_cons_succ, List.getElem_cons_zero, Act.put, List.setIfInBounds_toArray, List.set_cons_succ, List.set_cons_zero]
          refine wpAnyH_all (rs := [11]) (by kernel_rfl) (by simp) ?_
          intro kk hkk
          simp only [List.mem_singleton] at hkk
          subst hkk
          refine wpOp_of_list rfl ?_
          refine append_ops rfl (.tmp 43) (.tmp 46) rfl Z1.heap.size _ _ rfl O7.out.own (rightOf ⟨sA, sN, sC, sL⟩ k) (by show _ = OSl.v _; unfold OSl.v rightOf; rw [if_neg (fun e => hck e.symm)]; rfl) (right_at (HS.out.below (HD.out.trans (O7.out.d.mono HD.out.size))) cS hk) (right_nil ZS.out) (by simp [leftOf, rightOf]; omega) O7.out.d.size ?_
          intro v8 W8 o1 g1
          refine wpList_thenK ?_
          have O8 := Lib.hid (O7.out.more o1 g1)
          refine ⟨regrown_of_below O8.out.d, ?_⟩
          clear o1 g1
          try simp only [List.getElem_toArray, List.getElem_cons_succ, List.getElem_cons_zero, Act.put, List.setIfInBounds_toArray, List.set_cons_succ, List.set_cons_zero]
          refine wpAnyH_take (i := 12) (v := v8) rfl (by kernel_rfl) (by kernel_rfl) (by kernel_rfl) (fun _ _ _ h => h) (.inl ⟨rfl, fun V hV => rfl⟩) (regrown_of_below O8.out.d) ?_
          try simp only [List.getElem_toArray, List.getElem_cons_succ, List.getElem_cons_zero, Act.put, List.setIfInBounds_toArray, List.set_cons_succ, List.set_cons_zero]
          refine wpAnyH_done (by kernel_rfl) ?_ _
          go_wp2_with fail
          go_meet
          case rel => exact O8.out
      · refine wpOp_of_list rfl ?_
        go_wp2_with fail
        generalize hY : World.alloc G1 _ = W1 at *
        obtain ⟨bB, dB, _⟩ := arg_box (cs := (fenceF p q).cells) hY
        replace bB := Lib.hid bB
        replace dB := Lib.hid dB
        refine thenK_intro ?_
        have bW := bG.trans (dB.out.mono bG.size)
        refine ⟨regrown_of_below bW, ?_⟩
        have hsz : G1.heap.size < W1.heap.size := by rw [← hY, World.size_alloc]; omega
        try simp only [List.getElem_toArray, List.getElem_cons_succ, List.getElem_cons_zero, Act.put, List.setIfInBounds_toArray, List.set_cons_succ, List.set_cons_zero]
        refine wpAnyH_all (rs := [0]) (by kernel_rfl) (by simp) ?_
        intro kk hkk
        simp only [List.mem_singleton] at hkk
        subst hkk
        refine wpOp_of_list rfl ?_
        clear hY
        go_wp2_with fail
        have O0 := Lib.hid (OW.start' bW)
        generalize hY : World.alloc W1 _ = W2 at *
        refine thenK_intro ?_
        refine ⟨regrown_of_below O0.out.d, ?_⟩
        have b5 := Lib.hid (bB.out.below ((Below.refl _ _).alloc (Nat.le_refl _) (.cells #[] 29)))
        rw [hY] at b5
        try simp only [List.getElem_toArray, List.getElem_cons_succ, List.getElem_cons_zero, Act.put, List.setIfInBounds_toArray, List.set_cons_succ, List.set_cons_zero]
        refine wpAnyH_all (rs := [4]) (by kernel_rfl) (by simp) ?_
        intro kk hkk
        simp only [List.mem_singleton] at hkk
        subst hkk
        refine wpOp_of_list rfl ?_
        refine append_ops rfl (.tmp 36) (.tmp 39) rfl Z1.heap.size _ [] rfl O0.out.own (leftOf ⟨sA, sN, sC, sL⟩ k) rfl (left_at (HS.out.below (HD.out.trans (O0.out.d.mono HD.out.size))) hk) (fun e => ⟨by have := (ZS.out e).1; show k = 0; omega, (ZS.out e).2⟩) (by simp [leftOf]; omega) O0.out.d.size ?_
        intro v4 W3 o1 g1
        refine wpList_thenK ?_
        have O4 := Lib.hid (O0.out.more o1 g1)
        refine ⟨regrown_of_below O4.out.d, ?_⟩
        have b6 := Lib.hid (blk_grown b5.out g1 (by show some W1.heap.size ≠ _; have := hsz; simp; omega))
        clear o1 g1
        try simp only [List.getElem_toArray, List.getElem_cons_succ, List.getElem_cons_zero, Act.put, List.setIfInBounds_toArray, List.set_cons_succ, List.set_cons_zero]
        refine wpAnyH_all (rs := [7]) (by kernel_rfl) (by simp) ?_
        intro kk hkk
        simp only [List.mem_singleton] at hkk
        subst hkk
        refine wpOp_of_list rfl ?_
        refine append_ops rfl (.tmp 40) (.tmp 42) rfl Z1.heap.size _ _ rfl O4.out.own ⟨some ⟨G1.heap.size, 0, none⟩, 1, 1, [fenceF p q]⟩ rfl (one_at b6.out) (by intro h; cases h) (by simp [leftOf]; omega) O4.out.d.size ?_
        intro v7 W7 o1 g1
        refine wpList_thenK ?_
        have O7 := Lib.hid (O4.out.more o1 g1)
        refine ⟨regrown_of_below O7.out.d, ?_⟩
        clear o1 g1
        try simp only [List.getElem_toArray, List.getElem_cons_succ, List.getElem_cons_zero, Act.put, List.setIfInBounds_toArray, List.set_cons_succ, List.set_cons_zero]
        refine wpAnyH_all (rs := [11]) (by kernel_rfl) (by simp) ?_
        intro kk hkk
        simp only [List.mem_singleton] at hkk
        subst hkk
        refine wpOp_of_list rfl ?_
        refine append_ops rfl (.tmp 43) (.tmp 46) rfl Z1.heap.size _ _ rfl O7.out.own (rightOf ⟨sA, sN, sC, sL⟩ k) (by show _ = OSl.v _; unfold OSl.v rightOf; rw [if_neg (fun e => hck e.symm)]; rfl) (right_at (HS.out.below (HD.out.trans (O7.out.d.mono HD.out.size))) cS hk) (right_nil ZS.out) (by simp [leftOf, rightOf]; omega) O7.out.d.size ?_
        intro v8 W8 o1 g1
        refine wpList_thenK ?_
        have O8 := Lib.hid (O7.out.more o1 g1)
        refine ⟨regrown_of_below O8.out.d, ?_⟩
        clear o1 g1
        try simp only [List.getElem_toArray, List.getElem_cons_succ, List.getElem_cons_zero, Act.put, List.setIfInBounds_toArray, List.set_cons_succ, List.set_cons_zero]
        refine wpAnyH_take (i := 12) (v := v8) rfl (by kernel_rfl) (by kernel_rfl) (by kernel_rfl) (fun _ _ _ h => h) (.inl ⟨rfl, fun V hV => rfl⟩) (regrown_of_below O8.out.d) ?_
        try simp only [List.getElem_toArray, List.getElem_cons_succ, List.getElem_cons_zero, Act.put, List.setIfInBounds_toArray, List.set_cons_succ, List.set_cons_zero]
        refine wpAnyH_done (by kernel_rfl) ?_ _
        go_wp2_with fail
        go_meet
        case rel => exact O8.out
  case rest =>
    have hwG : w.heap.size ≤ G.heap.size := hwg
    have hGZ : G.heap.size < Z1.heap.size := by omega
    replace hcut := Lib.hid hcut
    replace b1 := Lib.hid (b1.out.below hcut.out.d)
    replace HD := Lib.hid (HD.out.trans (hcut.out.d.mono HD.out.size))
    have OM := Lib.hid hcut.out.own
    clear hcut d1
    go_upto_region 7 with (first
      | (refine wpList_store_i64 rfl 3 _ _ rfl G.heap.size 8 3 rfl rfl _ _ b1.out (by rw [OpS.len']; omega) i64_info ?_; (generalize hZ : World.setCell wc _ _ = Z2; have b2 := hZ ▸ b1.out.set 8 (.int .i64 3); replace b2 := Lib.hid b2; have HD2 := Lib.hid (hZ ▸ below_cell HD.out hwG (.int .i64 3)); have OM2 := Lib.hid (hZ ▸ own_cell OM.out hGZ (.int .i64 3)); clear hZ b1 HD OM))
      | (refine wpList_store_i64 rfl 3 _ _ rfl G.heap.size 9 3 rfl rfl _ _ b2.out (by rw [Array.size_setIfInBounds, OpS.len']; omega) i64_info ?_; (generalize hZ : World.setCell Z2 _ _ = Z3; have b3 : Blk Z3 G.heap.size (fenceF 3 3).cells 29 := hZ ▸ b2.out.set 9 (.int .i64 3); replace b1 := Lib.hid b3; have HD := Lib.hid (hZ ▸ below_cell HD2.out hwG (.int .i64 3)); have OM := Lib.hid (hZ ▸ own_cell OM2.out hGZ (.int .i64 3)); clear hZ b2 b3 HD2 OM2)))
    simp only [Act.put]
    have d1 := Lib.hid (Below.refl Z3.heap.size Z3)
    go_cut [12] from 50 to 61 (fun v wx => OW Z3 wx v (s.l.take k ++ [fenceF 3 3] ++ s.l.drop k))
    case first =>
      obtain ⟨sA, sN, sC, sL⟩ := s
      dsimp only at *
      by_cases hck : k = sC
      · subst hck
        obtain rfl : k = sN := by omega
        have cF : ∀ d os, CellsAt (Sort.grow (redrawn Z3 d) os) ⟨G.heap.size, 0, none⟩ (fenceF 3 3).cells := fun d os => (b1.out.below (below_regrown Z3 d os)).cellsAt (o := 0) fun j v hv => by rw [Nat.zero_add]; exact hv
        replace cF := Lib.hid cF
        refine wp_region_picks [1, 2, 3, 5, 8, 9, 10] [{ dst := some 51, op := Op.move (Operand.tmp 0), type := 22, pos := "law.go:60", after := #[], guard := none }, { dst := some 52, op := Op.move (Operand.tmp 9), type := 3, pos := "law.go:60", after := #[], guard := none }, { dst := some 53, op := Op.slice 22 (Operand.tmp 51) none (some (Operand.tmp 52)) none, type := 22, pos := "law.go:60", after := #[{ on := 1, ground := Ground.data }, { on := 2, ground := Ground.data }], guard := none }, { dst := some 55, op := Op.load 29 (Operand.tmp 10), type := 29, pos := "law.go:60", after := #[], guard := none }, { dst := some 58, op := Op.move (Operand.tmp 0), type := 22, pos := "law.go:60", after := #[], guard := none }, { dst := some 59, op := Op.move (Operand.tmp 9), type := 3, pos := "law.go:60", after := #[], guard := none }, { dst := some 60, op := Op.slice 22 (Operand.tmp 58) (some (Operand.tmp 59)) none none, type := 22, pos := "law.go:60", after := #[{ on := 8, ground := Ground.data }, { on := 9, ground := Ground.data }], guard := none }] rfl (by kernel_rfl) (by decide) (by kernel_rfl) (by kernel_rfl) (by kernel_rfl) (fun _ _ _ _ _ h => h) ?_
        go_big_quiet_step (fail)
        go_big_quiet_step (fail)
        go_big_quiet_step (fail)
        refine wpQuiet_load rfl 29 _ rfl ⟨G.heap.size, 0, none⟩ rfl #[.int .i64 (-1), .bool false, .bool false, .bool true, .int .u64 0, .int .i64 0, .bool false, .bool false, .int .i64 3, .int .i64 3, .int .u64 0, .int .u64 0, .slice none 0 0, .int .i64 (-1), .slice none 0 0, .slice none 0 0, .slice none 0 0] _ (fun V hV => by obtain ⟨⟨dq, osq⟩, rfl⟩ := hV; exact cF.out _ _) Try.underlying29 rfl op_info ?_
        simp only [Act.put, List.setIfInBounds_toArray, List.set_cons_succ, List.set_cons_zero]
        repeat go_big_quiet_step (fail)
        refine wpQuiet_nil ?_
        intro _ hw'
        obtain ⟨⟨dq, osq⟩, hw''⟩ := hw'
        subst hw''
        show wpAnyH Try.prog .any _ _ _ 6 _ _ _
        have bG := below_regrown Z3 dq osq
        generalize Sort.grow (redrawn Z3 dq) osq = G1 at *
        refine wpAnyH_all (rs := [0, 6]) (by kernel_rfl) (by simp) ?_
        intro kk hkk
        simp only [List.mem_cons, List.not_mem_nil, or_false] at hkk
        rcases hkk with rfl | rfl
        · refine wpOp_of_list rfl ?_
          go_wp2_with fail
          have O0 := Lib.hid (OW.start' bG)
          generalize hY : World.alloc G1 _ = W1 at *
          refine thenK_intro ?_
          refine ⟨regrown_of_below O0.out.d, ?_⟩
          try simp only [List.getElem_toArray, List.getElem_cons_succ, List.getElem_cons_zero, Act.put, List.setIfInBounds_toArray, List.set_cons_succ, List.set_cons_zero]
          refine wpAnyH_all (rs := [4, 6]) (by kernel_rfl) (by simp) ?_
          intro kk hkk
          simp only [List.mem_cons, List.not_mem_nil, or_false] at hkk
          rcases hkk with rfl | rfl
          · refine wpOp_of_list rfl ?_
            refine append_ops rfl (.tmp 50) (.tmp 53) rfl Z3.heap.size _ [] rfl O0.out.own (leftOf ⟨sA, k, k, sL⟩ k) rfl (left_at (HS.out.below (HD.out.trans (O0.out.d.mono HD.out.size))) hk) (fun e => ⟨by have := (ZS.out e).1; show k = 0; omega, (ZS.out e).2⟩) (by simp [leftOf]; omega) O0.out.d.size ?_
            intro v4 W2 o1 g1
            refine wpList_thenK ?_
            have O4 := Lib.hid (O0.out.more o1 g1)
            refine ⟨regrown_of_below O4.out.d, ?_⟩
            skip
            clear o1 g1
            try simp only [List.getElem_toArray, List.getElem_cons_succ, List.getElem_cons_zero, Act.put, List.setIfInBounds_toArray, List.set_cons_succ, List.set_cons_zero]
            refine wpAnyH_all (rs := [6]) (by kernel_rfl) (by simp) ?_
            intro kk hkk
            simp only [List.mem_singleton] at hkk
            subst hkk
            refine wpOp_of_list rfl ?_
            go_wp2_with fail
            generalize hY : World.alloc W2 _ = W3 at *
            obtain ⟨bB, dB, _⟩ := arg_box (cs := (fenceF 3 3).cells) hY
            replace bB := Lib.hid bB
            replace dB := Lib.hid dB
            refine thenK_intro ?_
            have O5 := Lib.hid (O4.out.below dB.out)
            refine ⟨regrown_of_below O5.out.d, ?_⟩
            try simp only [List.getElem_toArray, List.getElem_cons_succ, List.getElem_cons_zero, Act.put, List.setIfInBounds_toArray, List.set_cons_succ, List.set_cons_zero]
            refine wpAnyH_all (rs := [7]) (by kernel_rfl) (by simp) ?_
            intro kk hkk
            simp only [List.mem_singleton] at hkk
            subst hkk
            refine wpOp_of_list rfl ?_
            refine append_ops rfl (.tmp 54) (.tmp 56) rfl Z3.heap.size _ _ rfl O5.out.own ⟨some ⟨W2.heap.size, 0, none⟩, 1, 1, [fenceF 3 3]⟩ rfl (one_at bB.out) (by intro h; cases h) (by simp [leftOf]; omega) O5.out.d.size ?_
            intro v7 W7 o1 g1
            refine wpList_thenK ?_
            have O7 := Lib.hid (O5.out.more o1 g1)
            refine ⟨regrown_of_below O7.out.d, ?_⟩
            clear o1 g1
            try simp only [List.getElem_toArray, List.getElem_cons_succ, List.getElem_cons_zero, Act.put, List.setIfInBounds_toArray, List.set_cons_succ, List.set_cons_zero]
            refine wpAnyH_all (rs := [11]) (by kernel_rfl) (by simp) ?_
            intro kk hkk
            simp only [List.mem_singleton] at hkk
            subst hkk
            refine wpOp_of_list rfl ?_
            refine append_ops rfl (.tmp 57) (.tmp 60) rfl Z3.heap.size _ _ rfl O7.out.own (⟨sA, 0, 0, []⟩) (rfl) (⟨fun h => absurd rfl h, rfl, by show 0 ≤ _; omega, fun o ho => by cases ho⟩) (fun _ => ⟨rfl, rfl⟩) (by simp [leftOf, rightOf]; omega) O7.out.d.size ?_
            intro v8 W8 o1 g1
            refine wpList_thenK ?_
            have O8 := Lib.hid (O7.out.more o1 g1)
            refine ⟨regrown_of_below O8.out.d, ?_⟩
            clear o1 g1
            try simp only [List.getElem_toArray, List.getElem_cons_succ, List.getElem_cons_zero, Act.put, List.setIfInBounds_toArray, List.set_cons_succ, List.set_cons_zero]
            refine wpAnyH_take (i := 12) (v := v8) rfl (by kernel_rfl) (by kernel_rfl) (by kernel_rfl) (fun _ _ _ h => h) (.inl ⟨rfl, fun V hV => rfl⟩) (regrown_of_below O8.out.d) ?_
            try simp only [List.getElem_toArray, List.getElem_cons_succ, List.getElem_cons_zero, Act.put, List.setIfInBounds_toArray, List.set_cons_succ, List.set_cons_zero]
            refine wpAnyH_done (by kernel_rfl) ?_ _
            go_wp2_with fail
            go_meet
            case rel => (have hz : sL.drop k = [] := List.drop_of_length_le (by omega)); rw [hz]; exact O8.out
          · have hsz : G1.heap.size < W1.heap.size := by rw [← hY, World.size_alloc]; omega
            refine wpOp_of_list rfl ?_
            go_wp2_with fail
            generalize hY : World.alloc W1 _ = W2 at *
            obtain ⟨bB, dB, _⟩ := arg_box (cs := (fenceF 3 3).cells) hY
            replace bB := Lib.hid bB
            replace dB := Lib.hid dB
            refine thenK_intro ?_
            have O5 := Lib.hid (O0.out.below dB.out)
            refine ⟨regrown_of_below O5.out.d, ?_⟩
            try simp only [List.getElem_toArray, List.getElem_cons_succ, List.getElem_cons_zero, Act.put, List.setIfInBounds_toArray, List.set_cons_succ, List.set_cons_zero]
            refine wpAnyH_all (rs := [4]) (by kernel_rfl) (by simp) ?_
            intro kk hkk
            simp only [List.mem_singleton] at hkk
            subst hkk
            refine wpOp_of_list rfl ?_
            refine append_ops rfl (.tmp 50) (.tmp 53) rfl Z3.heap.size _ [] rfl O5.out.own (leftOf ⟨sA, k, k, sL⟩ k) rfl (left_at (HS.out.below (HD.out.trans (O5.out.d.mono HD.out.size))) hk) (fun e => ⟨by have := (ZS.out e).1; show k = 0; omega, (ZS.out e).2⟩) (by simp [leftOf]; omega) O5.out.d.size ?_
            intro v4 W3 o1 g1
            refine wpList_thenK ?_
            have O4 := Lib.hid (O5.out.more o1 g1)
            refine ⟨regrown_of_below O4.out.d, ?_⟩
            have b5 := Lib.hid (blk_grown bB.out g1 (by show some G1.heap.size ≠ _; have := hsz; simp; omega))
            clear o1 g1
            try simp only [List.getElem_toArray, List.getElem_cons_succ, List.getElem_cons_zero, Act.put, List.setIfInBounds_toArray, List.set_cons_succ, List.set_cons_zero]
            refine wpAnyH_all (rs := [7]) (by kernel_rfl) (by simp) ?_
            intro kk hkk
            simp only [List.mem_singleton] at hkk
            subst hkk
            refine wpOp_of_list rfl ?_
            refine append_ops rfl (.tmp 54) (.tmp 56) rfl Z3.heap.size _ _ rfl O4.out.own ⟨some ⟨W1.heap.size, 0, none⟩, 1, 1, [fenceF 3 3]⟩ rfl (one_at b5.out) (by intro h; cases h) (by simp [leftOf]; omega) O4.out.d.size ?_
            intro v7 W7 o1 g1
            refine wpList_thenK ?_
            have O7 := Lib.hid (O4.out.more o1 g1)
            refine ⟨regrown_of_below O7.out.d, ?_⟩
            clear o1 g1
            try simp only [List.getElem_toArray, List.getElem_cons_succ, List.getElem_cons_zero, Act.put, List.setIfInBounds_toArray, List.set_cons_succ, List.set_cons_zero]
            refine wpAnyH_all (rs := [11]) (by kernel_rfl) (by simp) ?_
            intro kk hkk
            simp only [List.mem_singleton] at hkk
            subst hkk
            refine wpOp_of_list rfl ?_
            refine append_ops rfl (.tmp 57) (.tmp 60) rfl Z3.heap.size _ _ rfl O7.out.own (⟨sA, 0, 0, []⟩) (rfl) (⟨fun h => absurd rfl h, rfl, by show 0 ≤ _; omega, fun o ho => by cases ho⟩) (fun _ => ⟨rfl, rfl⟩) (by simp [leftOf, rightOf]; omega) O7.out.d.size ?_
            intro v8 W8 o1 g1
            refine wpList_thenK ?_
            have O8 := Lib.hid (O7.out.more o1 g1)
            refine ⟨regrown_of_below O8.out.d, ?_⟩
            clear o1 g1
            try simp only [List.getElem_toArray, List.getElem_cons_succ, List.getElem_cons_zero, Act.put, List.setIfInBounds_toArray, List.set_cons_succ, List.set_cons_zero]
            refine wpAnyH_take (i := 12) (v := v8) rfl (by kernel_rfl) (by kernel_rfl) (by kernel_rfl) (fun _ _ _ h => h) (.inl ⟨rfl, fun V hV => rfl⟩) (regrown_of_below O8.out.d) ?_
            try simp only [List.getElem_toArray, List.getElem_cons_succ, List.getElem_cons_zero, Act.put, List.setIfInBounds_toArray, List.set_cons_succ, List.set_cons_zero]
            refine wpAnyH_done (by kernel_rfl) ?_ _
            go_wp2_with fail
            go_meet
            case rel => (have hz : sL.drop k = [] := List.drop_of_length_le (by omega)); rw [hz]; exact O8.out
        · refine wpOp_of_list rfl ?_
          go_wp2_with fail
          generalize hY : World.alloc G1 _ = W1 at *
          obtain ⟨bB, dB, _⟩ := arg_box (cs := (fenceF 3 3).cells) hY
          replace bB := Lib.hid bB
          replace dB := Lib.hid dB
          refine thenK_intro ?_
          have bW := bG.trans (dB.out.mono bG.size)
          refine ⟨regrown_of_below bW, ?_⟩
          have hsz : G1.heap.size < W1.heap.size := by rw [← hY, World.size_alloc]; omega
          try simp only [List.getElem_toArray, List.getElem_cons_succ, List.getElem_cons_zero, Act.put, List.setIfInBounds_toArray, List.set_cons_succ, List.set_cons_zero]
          refine wpAnyH_all (rs := [0]) (by kernel_rfl) (by simp) ?_
          intro kk hkk
          simp only [List.mem_singleton] at hkk
          subst hkk
          refine wpOp_of_list rfl ?_
          clear hY
          go_wp2_with fail
          have O0 := Lib.hid (OW.start' bW)
          generalize hY : World.alloc W1 _ = W2 at *
          refine thenK_intro ?_
          refine ⟨regrown_of_below O0.out.d, ?_⟩
          have b5 := Lib.hid (bB.out.below ((Below.refl _ _).alloc (Nat.le_refl _) (.cells #[] 29)))
          rw [hY] at b5
          try simp only [List.getElem_toArray, List.getElem_cons_succ, List.getElem_cons_zero, Act.put, List.setIfInBounds_toArray, List.set_cons_succ, List.set_cons_zero]
          refine wpAnyH_all (rs := [4]) (by kernel_rfl) (by simp) ?_
          intro kk hkk
          simp only [List.mem_singleton] at hkk
          subst hkk
          refine wpOp_of_list rfl ?_
          refine append_ops rfl (.tmp 50) (.tmp 53) rfl Z3.heap.size _ [] rfl O0.out.own (leftOf ⟨sA, k, k, sL⟩ k) rfl (left_at (HS.out.below (HD.out.trans (O0.out.d.mono HD.out.size))) hk) (fun e => ⟨by have := (ZS.out e).1; show k = 0; omega, (ZS.out e).2⟩) (by simp [leftOf]; omega) O0.out.d.size ?_
          intro v4 W3 o1 g1
          refine wpList_thenK ?_
          have O4 := Lib.hid (O0.out.more o1 g1)
          refine ⟨regrown_of_below O4.out.d, ?_⟩
          have b6 := Lib.hid (blk_grown b5.out g1 (by show some W1.heap.size ≠ _; have := hsz; simp; omega))
          clear o1 g1
          try simp only [List.getElem_toArray, List.getElem_cons_succ, List.getElem_cons_zero, Act.put, List.setIfInBounds_toArray, List.set_cons_succ, List.set_cons_zero]
          refine wpAnyH_all (rs := [7]) (by kernel_rfl) (by simp) ?_
          intro kk hkk
          simp only [List.mem_singleton] at hkk
          subst hkk
          refine wpOp_of_list rfl ?_
          refine append_ops rfl (.tmp 54) (.tmp 56) rfl Z3.heap.size _ _ rfl O4.out.own ⟨some ⟨G1.heap.size, 0, none⟩, 1, 1, [fenceF 3 3]⟩ rfl (one_at b6.out) (by intro h; cases h) (by simp [leftOf]; omega) O4.out.d.size ?_
          intro v7 W7 o1 g1
          refine wpList_thenK ?_
          have O7 := Lib.hid (O4.out.more o1 g1)
          refine ⟨regrown_of_below O7.out.d, ?_⟩
          clear o1 g1
          try simp only [List.getElem_toArray, List.getElem_cons_succ, List.getElem_cons_zero, Act.put, List.setIfInBounds_toArray, List.set_cons_succ, List.set_cons_zero]
          refine wpAnyH_all (rs := [11]) (by kernel_rfl) (by simp) ?_
          intro kk hkk
          simp only [List.mem_singleton] at hkk
          subst hkk
          refine wpOp_of_list rfl ?_
          refine append_ops rfl (.tmp 57) (.tmp 60) rfl Z3.heap.size _ _ rfl O7.out.own (⟨sA, 0, 0, []⟩) (rfl) (⟨fun h => absurd rfl h, rfl, by show 0 ≤ _; omega, fun o ho => by cases ho⟩) (fun _ => ⟨rfl, rfl⟩) (by simp [leftOf, rightOf]; omega) O7.out.d.size ?_
          intro v8 W8 o1 g1
          refine wpList_thenK ?_
          have O8 := Lib.hid (O7.out.more o1 g1)
          refine ⟨regrown_of_below O8.out.d, ?_⟩
          clear o1 g1
          try simp only [List.getElem_toArray, List.getElem_cons_succ, List.getElem_cons_zero, Act.put, List.setIfInBounds_toArray, List.set_cons_succ, List.set_cons_zero]
          refine wpAnyH_take (i := 12) (v := v8) rfl (by kernel_rfl) (by kernel_rfl) (by kernel_rfl) (fun _ _ _ h => h) (.inl ⟨rfl, fun V hV => rfl⟩) (regrown_of_below O8.out.d) ?_
          try simp only [List.getElem_toArray, List.getElem_cons_succ, List.getElem_cons_zero, Act.put, List.setIfInBounds_toArray, List.set_cons_succ, List.set_cons_zero]
          refine wpAnyH_done (by kernel_rfl) ?_ _
          go_wp2_with fail
          go_meet
          case rel => (have hz : sL.drop k = [] := List.drop_of_length_le (by omega)); rw [hz]; exact O8.out
      · have hck2 : ¬ sC = k := fun e => hck e.symm
        have cF : ∀ d os, CellsAt (Sort.grow (redrawn Z3 d) os) ⟨G.heap.size, 0, none⟩ (fenceF 3 3).cells := fun d os => (b1.out.below (below_regrown Z3 d os)).cellsAt (o := 0) fun j v hv => by rw [Nat.zero_add]; exact hv
        replace cF := Lib.hid cF
        refine wp_region_picks [1, 2, 3, 5, 8, 9, 10] [{ dst := some 51, op := Op.move (Operand.tmp 0), type := 22, pos := "law.go:60", after := #[], guard := none }, { dst := some 52, op := Op.move (Operand.tmp 9), type := 3, pos := "law.go:60", after := #[], guard := none }, { dst := some 53, op := Op.slice 22 (Operand.tmp 51) none (some (Operand.tmp 52)) none, type := 22, pos := "law.go:60", after := #[{ on := 1, ground := Ground.data }, { on := 2, ground := Ground.data }], guard := none }, { dst := some 55, op := Op.load 29 (Operand.tmp 10), type := 29, pos := "law.go:60", after := #[], guard := none }, { dst := some 58, op := Op.move (Operand.tmp 0), type := 22, pos := "law.go:60", after := #[], guard := none }, { dst := some 59, op := Op.move (Operand.tmp 9), type := 3, pos := "law.go:60", after := #[], guard := none }, { dst := some 60, op := Op.slice 22 (Operand.tmp 58) (some (Operand.tmp 59)) none none, type := 22, pos := "law.go:60", after := #[{ on := 8, ground := Ground.data }, { on := 9, ground := Ground.data }], guard := none }] rfl (by kernel_rfl) (by decide) (by kernel_rfl) (by kernel_rfl) (by kernel_rfl) (fun _ _ _ _ _ h => h) ?_
        go_big_quiet_step (fail)
        go_big_quiet_step (fail)
        go_big_quiet_step (fail)
        refine wpQuiet_load rfl 29 _ rfl ⟨G.heap.size, 0, none⟩ rfl #[.int .i64 (-1), .bool false, .bool false, .bool true, .int .u64 0, .int .i64 0, .bool false, .bool false, .int .i64 3, .int .i64 3, .int .u64 0, .int .u64 0, .slice none 0 0, .int .i64 (-1), .slice none 0 0, .slice none 0 0, .slice none 0 0] _ (fun V hV => by obtain ⟨⟨dq, osq⟩, rfl⟩ := hV; exact cF.out _ _) Try.underlying29 rfl op_info ?_
        simp only [Act.put, List.setIfInBounds_toArray, List.set_cons_succ, List.set_cons_zero]
        repeat go_big_quiet_step (fail)
        refine wpQuiet_nil ?_
        intro _ hw'
        obtain ⟨⟨dq, osq⟩, hw''⟩ := hw'
        subst hw''
        show wpAnyH Try.prog .any _ _ _ 6 _ _ _
        have bG := below_regrown Z3 dq osq
        generalize Sort.grow (redrawn Z3 dq) osq = G1 at *
        refine wpAnyH_all (rs := [0, 6]) (by kernel_rfl) (by simp) ?_
        intro kk hkk
        simp only [List.mem_cons, List.not_mem_nil, or_false] at hkk
        rcases hkk with rfl | rfl
        · refine wpOp_of_list rfl ?_
          go_wp2_with fail
          have O0 := Lib.hid (OW.start' bG)
          generalize hY : World.alloc G1 _ = W1 at *
          refine thenK_intro ?_
          refine ⟨regrown_of_below O0.out.d, ?_⟩
          try simp only [List.getElem_toArray, List.getElem_cons_succ, List.getElem_cons_zero, Act.put, List.setIfInBounds_toArray, List.set_cons_succ, List.set_cons_zero]
          refine wpAnyH_all (rs := [4, 6]) (by kernel_rfl) (by simp) ?_
          intro kk hkk
          simp only [List.mem_cons, List.not_mem_nil, or_false] at hkk
          rcases hkk with rfl | rfl
          · refine wpOp_of_list rfl ?_
            refine append_ops rfl (.tmp 50) (.tmp 53) rfl Z3.heap.size _ [] rfl O0.out.own (leftOf ⟨sA, sN, sC, sL⟩ k) rfl (left_at (HS.out.below (HD.out.trans (O0.out.d.mono HD.out.size))) hk) (fun e => ⟨by have := (ZS.out e).1; show k = 0; omega, (ZS.out e).2⟩) (by simp [leftOf]; omega) O0.out.d.size ?_
            intro v4 W2 o1 g1
            refine wpList_thenK ?_
            have O4 := Lib.hid (O0.out.more o1 g1)
            refine ⟨regrown_of_below O4.out.d, ?_⟩
            skip
            clear o1 g1
            try simp only [List.getElem_toArray, List.getElem_cons_succ, List.getElem_cons_zero, Act.put, List.setIfInBounds_toArray, List.set_cons_succ, List.set_cons_zero]
            refine wpAnyH_all (rs := [6]) (by kernel_rfl) (by simp) ?_
            intro kk hkk
            simp only [List.mem_singleton] at hkk
            subst hkk
            refine wpOp_of_list rfl ?_
            go_wp2_with fail
            generalize hY : World.alloc W2 _ = W3 at *
            obtain ⟨bB, dB, _⟩ := arg_box (cs := (fenceF 3 3).cells) hY
            replace bB := Lib.hid bB
            replace dB := Lib.hid dB
            refine thenK_intro ?_
            have O5 := Lib.hid (O4.out.below dB.out)
            refine ⟨regrown_of_below O5.out.d, ?_⟩
            try simp only [List.getElem_toArray, List.getElem_cons_succ, List.getElem_cons_zero, Act.put, List.setIfInBounds_toArray, List.set_cons_succ, List.set_cons_zero]
            refine wpAnyH_all (rs := [7]) (by kernel_rfl) (by simp) ?_
            intro kk hkk
            simp only [List.mem_singleton] at hkk
            subst hkk
            refine wpOp_of_list rfl ?_
            refine append_ops rfl (.tmp 54) (.tmp 56) rfl Z3.heap.size _ _ rfl O5.out.own ⟨some ⟨W2.heap.size, 0, none⟩, 1, 1, [fenceF 3 3]⟩ rfl (one_at bB.out) (by intro h; cases h) (by simp [leftOf]; omega) O5.out.d.size ?_
            intro v7 W7 o1 g1
            refine wpList_thenK ?_
            have O7 := Lib.hid (O5.out.more o1 g1)
            refine ⟨regrown_of_below O7.out.d, ?_⟩
            clear o1 g1
            try simp only [List.getElem_toArray, List.getElem_cons_succ, List.getElem_cons_zero, Act.put, List.setIfInBounds_toArray, List.set_cons_succ, List.set_cons_zero]
            refine wpAnyH_all (rs := [11]) (by kernel_rfl) (by simp) ?_
            intro kk hkk
            simp only [List.mem_singleton] at hkk
            subst hkk
            refine wpOp_of_list rfl ?_
            refine append_ops rfl (.tmp 57) (.tmp 60) rfl Z3.heap.size _ _ rfl O7.out.own (rightOf ⟨sA, sN, sC, sL⟩ k) (by show _ = OSl.v _; unfold OSl.v rightOf; rw [if_neg (fun e => hck e.symm)]; rfl) (right_at (HS.out.below (HD.out.trans (O7.out.d.mono HD.out.size))) cS hk) (right_nil ZS.out) (by simp [leftOf, rightOf]; omega) O7.out.d.size ?_
            intro v8 W8 o1 g1
            refine wpList_thenK ?_
            have O8 := Lib.hid (O7.out.more o1 g1)
            refine ⟨regrown_of_below O8.out.d, ?_⟩
            clear o1 g1
            try simp only [List.getElem_toArray, List.getElem_cons_succ, List.getElem_cons_zero, Act.put, List.setIfInBounds_toArray, List.set_cons_succ, List.set_cons_zero]
            refine wpAnyH_take (i := 12) (v := v8) rfl (by kernel_rfl) (by kernel_rfl) (by kernel_rfl) (fun _ _ _ h => h) (.inl ⟨rfl, fun V hV => rfl⟩) (regrown_of_below O8.out.d) ?_
            try simp only [List.getElem_toArray, List.getElem_cons_succ, List.getElem_cons_zero, Act.put, List.setIfInBounds_toArray, List.set_cons_succ, List.set_cons_zero]
            refine wpAnyH_done (by kernel_rfl) ?_ _
            go_wp2_with fail
            go_meet
            case rel => exact O8.out
          · have hsz : G1.heap.size < W1.heap.size := by rw [← hY, World.size_alloc]; omega
            refine wpOp_of_list rfl ?_
            go_wp2_with fail
            generalize hY : World.alloc W1 _ = W2 at *
            obtain ⟨bB, dB, _⟩ := arg_box (cs := (fenceF 3 3).cells) hY
            replace bB := Lib.hid bB
            replace dB := Lib.hid dB
            refine thenK_intro ?_
            have O5 := Lib.hid (O0.out.below dB.out)
            refine ⟨regrown_of_below O5.out.d, ?_⟩
            try simp only [List.getElem_toArray, List.getElem_cons_succ, List.getElem_cons_zero, Act.put, List.setIfInBounds_toArray, List.set_cons_succ, List.set_cons_zero]
            refine wpAnyH_all (rs := [4]) (by kernel_rfl) (by simp) ?_
            intro kk hkk
            simp only [List.mem_singleton] at hkk
            subst hkk
            refine wpOp_of_list rfl ?_
            refine append_ops rfl (.tmp 50) (.tmp 53) rfl Z3.heap.size _ [] rfl O5.out.own (leftOf ⟨sA, sN, sC, sL⟩ k) rfl (left_at (HS.out.below (HD.out.trans (O5.out.d.mono HD.out.size))) hk) (fun e => ⟨by have := (ZS.out e).1; show k = 0; omega, (ZS.out e).2⟩) (by simp [leftOf]; omega) O5.out.d.size ?_
            intro v4 W3 o1 g1
            refine wpList_thenK ?_
            have O4 := Lib.hid (O5.out.more o1 g1)
            refine ⟨regrown_of_below O4.out.d, ?_⟩
            have b5 := Lib.hid (blk_grown bB.out g1 (by show some G1.heap.size ≠ _; have := hsz; simp; omega))
            clear o1 g1
            try simp only [List.getElem_toArray, List.getElem_cons_succ, List.getElem_cons_zero, Act.put, List.setIfInBounds_toArray, List.set_cons_succ, List.set_cons_zero]
            refine wpAnyH_all (rs := [7]) (by kernel_rfl) (by simp) ?_
            intro kk hkk
            simp only [List.mem_singleton] at hkk
            subst hkk
            refine wpOp_of_list rfl ?_
            refine append_ops rfl (.tmp 54) (.tmp 56) rfl Z3.heap.size _ _ rfl O4.out.own ⟨some ⟨W1.heap.size, 0, none⟩, 1, 1, [fenceF 3 3]⟩ rfl (one_at b5.out) (by intro h; cases h) (by simp [leftOf]; omega) O4.out.d.size ?_
            intro v7 W7 o1 g1
            refine wpList_thenK ?_
            have O7 := Lib.hid (O4.out.more o1 g1)
            refine ⟨regrown_of_below O7.out.d, ?_⟩
            clear o1 g1
            try simp only [List.getElem_toArray, List.getElem_cons_succ, List.getElem_cons_zero, Act.put, List.setIfInBounds_toArray, List.set_cons_succ, List.set_cons_zero]
            refine wpAnyH_all (rs := [11]) (by kernel_rfl) (by simp) ?_
            intro kk hkk
            simp only [List.mem_singleton] at hkk
            subst hkk
            refine wpOp_of_list rfl ?_
            refine append_ops rfl (.tmp 57) (.tmp 60) rfl Z3.heap.size _ _ rfl O7.out.own (rightOf ⟨sA, sN, sC, sL⟩ k) (by show _ = OSl.v _; unfold OSl.v rightOf; rw [if_neg (fun e => hck e.symm)]; rfl) (right_at (HS.out.below (HD.out.trans (O7.out.d.mono HD.out.size))) cS hk) (right_nil ZS.out) (by simp [leftOf, rightOf]; omega) O7.out.d.size ?_
            intro v8 W8 o1 g1
            refine wpList_thenK ?_
            have O8 := Lib.hid (O7.out.more o1 g1)
            refine ⟨regrown_of_below O8.out.d, ?_⟩
            clear o1 g1
            try simp only [List.getElem_toArray, List.getElem_cons_succ, List.getElem_cons_zero, Act.put, List.setIfInBounds_toArray, List.set_cons_succ, List.set_cons_zero]
            refine wpAnyH_take (i := 12) (v := v8) rfl (by kernel_rfl) (by kernel_rfl) (by kernel_rfl) (fun _ _ _ h => h) (.inl ⟨rfl, fun V hV => rfl⟩) (regrown_of_below O8.out.d) ?_
            try simp only [List.getElem_toArray, List.getElem_cons_succ, List.getElem_cons_zero, Act.put, List.setIfInBounds_toArray, List.set_cons_succ, List.set_cons_zero]
            refine wpAnyH_done (by kernel_rfl) ?_ _
            go_wp2_with fail
            go_meet
            case rel => exact O8.out
        · refine wpOp_of_list rfl ?_
          go_wp2_with fail
          generalize hY : World.alloc G1 _ = W1 at *
          obtain ⟨bB, dB, _⟩ := arg_box (cs := (fenceF 3 3).cells) hY
          replace bB := Lib.hid bB
          replace dB := Lib.hid dB
          refine thenK_intro ?_
          have bW := bG.trans (dB.out.mono bG.size)
          refine ⟨regrown_of_below bW, ?_⟩
          have hsz : G1.heap.size < W1.heap.size := by rw [← hY, World.size_alloc]; omega
          try simp only [List.getElem_toArray, List.getElem_cons_succ, List.getElem_cons_zero, Act.put, List.setIfInBounds_toArray, List.set_cons_succ, List.set_cons_zero]
          refine wpAnyH_all (rs := [0]) (by kernel_rfl) (by simp) ?_
          intro kk hkk
          simp only [List.mem_singleton] at hkk
          subst hkk
          refine wpOp_of_list rfl ?_
          clear hY
          go_wp2_with fail
          have O0 := Lib.hid (OW.start' bW)
          generalize hY : World.alloc W1 _ = W2 at *
          refine thenK_intro ?_
          refine ⟨regrown_of_below O0.out.d, ?_⟩
          have b5 := Lib.hid (bB.out.below ((Below.refl _ _).alloc (Nat.le_refl _) (.cells #[] 29)))
          rw [hY] at b5
          try simp only [List.getElem_toArray, List.getElem_cons_succ, List.getElem_cons_zero, Act.put, List.setIfInBounds_toArray, List.set_cons_succ, List.set_cons_zero]
          refine wpAnyH_all (rs := [4]) (by kernel_rfl) (by simp) ?_
          intro kk hkk
          simp only [List.mem_singleton] at hkk
          subst hkk
          refine wpOp_of_list rfl ?_
          refine append_ops rfl (.tmp 50) (.tmp 53) rfl Z3.heap.size _ [] rfl O0.out.own (leftOf ⟨sA, sN, sC, sL⟩ k) rfl (left_at (HS.out.below (HD.out.trans (O0.out.d.mono HD.out.size))) hk) (fun e => ⟨by have := (ZS.out e).1; show k = 0; omega, (ZS.out e).2⟩) (by simp [leftOf]; omega) O0.out.d.size ?_
          intro v4 W3 o1 g1
          refine wpList_thenK ?_
          have O4 := Lib.hid (O0.out.more o1 g1)
          refine ⟨regrown_of_below O4.out.d, ?_⟩
          have b6 := Lib.hid (blk_grown b5.out g1 (by show some W1.heap.size ≠ _; have := hsz; simp; omega))
          clear o1 g1
          try simp only [List.getElem_toArray, List.getElem_cons_succ, List.getElem_cons_zero, Act.put, List.setIfInBounds_toArray, List.set_cons_succ, List.set_cons_zero]
          refine wpAnyH_all (rs := [7]) (by kernel_rfl) (by simp) ?_
          intro kk hkk
          simp only [List.mem_singleton] at hkk
          subst hkk
          refine wpOp_of_list rfl ?_
          refine append_ops rfl (.tmp 54) (.tmp 56) rfl Z3.heap.size _ _ rfl O4.out.own ⟨some ⟨G1.heap.size, 0, none⟩, 1, 1, [fenceF 3 3]⟩ rfl (one_at b6.out) (by intro h; cases h) (by simp [leftOf]; omega) O4.out.d.size ?_
          intro v7 W7 o1 g1
          refine wpList_thenK ?_
          have O7 := Lib.hid (O4.out.more o1 g1)
          refine ⟨regrown_of_below O7.out.d, ?_⟩
          clear o1 g1
          try simp only [List.getElem_toArray, List.getElem_cons_succ, List.getElem_cons_zero, Act.put, List.setIfInBounds_toArray, List.set_cons_succ, List.set_cons_zero]
          refine wpAnyH_all (rs := [11]) (by kernel_rfl) (by simp) ?_
          intro kk hkk
          simp only [List.mem_singleton] at hkk
          subst hkk
          refine wpOp_of_list rfl ?_
          refine append_ops rfl (.tmp 57) (.tmp 60) rfl Z3.heap.size _ _ rfl O7.out.own (rightOf ⟨sA, sN, sC, sL⟩ k) (by show _ = OSl.v _; unfold OSl.v rightOf; rw [if_neg (fun e => hck e.symm)]; rfl) (right_at (HS.out.below (HD.out.trans (O7.out.d.mono HD.out.size))) cS hk) (right_nil ZS.out) (by simp [leftOf, rightOf]; omega) O7.out.d.size ?_
          intro v8 W8 o1 g1
          refine wpList_thenK ?_
          have O8 := Lib.hid (O7.out.more o1 g1)
          refine ⟨regrown_of_below O8.out.d, ?_⟩
          clear o1 g1
          try simp only [List.getElem_toArray, List.getElem_cons_succ, List.getElem_cons_zero, Act.put, List.setIfInBounds_toArray, List.set_cons_succ, List.set_cons_zero]
          refine wpAnyH_take (i := 12) (v := v8) rfl (by kernel_rfl) (by kernel_rfl) (by kernel_rfl) (fun _ _ _ h => h) (.inl ⟨rfl, fun V hV => rfl⟩) (regrown_of_below O8.out.d) ?_
          try simp only [List.getElem_toArray, List.getElem_cons_succ, List.getElem_cons_zero, Act.put, List.setIfInBounds_toArray, List.set_cons_succ, List.set_cons_zero]
          refine wpAnyH_done (by kernel_rfl) ?_ _
          go_wp2_with fail
          go_meet
          case rel => exact O8.out
    case rest =>
      replace hcut := Lib.hid hcut
      have HD3 := Lib.hid (HD.out.trans (hcut.out.d.mono HD.out.size))
      replace OM := Lib.hid (own_below OM.out hcut.out.d)
      have ON := Lib.hid hcut.out.own
      clear hcut d1 HD b1
      obtain ⟨m, em, mA, mC, mL⟩ := OwnOps.at_ OM.out (by simp; omega) (more_ops (HS.out.below HD3.out) k p q)
      obtain ⟨n, en, nA, nC, nL⟩ := OwnOps.at_ ON.out (by simp; omega) (more_ops (HS.out.below HD3.out) k 3 3)
      subst em en
      replace mL := Lib.hid mL
      replace nL := Lib.hid nL
      replace HS := Lib.hid (HS.out.below HD3.out)
      have RS : Hid (∀ W, Below wc.heap.size wc W → ∀ p q : Int, Calls Try.prog 8 #[.slice s.a s.n s.c, .int .i64 p, .int .i64 q] W fun e w' => ∃ r : Sl, e = .returned r.v ∧ r.At w' ∧ r.l = rulesOf s.l p q ∧ Below W.heap.size W w') := Lib.hid fun W d p q => Rules_any s p q W (HS.out.below d) cS
      have RM : Hid (∀ W, Below wc.heap.size wc W → ∀ p q : Int, Calls Try.prog 8 #[m.v, .int .i64 p, .int .i64 q] W fun e w' => ∃ r : Sl, e = .returned r.v ∧ r.At w' ∧ r.l = rulesOf m.l p q ∧ Below W.heap.size W w') := Lib.hid fun W d p q => Rules_any m p q W (mA.below d) mC
      have RN : Hid (∀ W, Below wc.heap.size wc W → ∀ p q : Int, Calls Try.prog 10 #[n.v, .int .i64 p, .int .i64 q] W fun e w' => e = .returned (.int .i64 (ruleOf n.l p q)) ∧ Below W.heap.size W w') := Lib.hid fun W d p q => Rule_any n p q W (nA.below d) nC
      clear OM ON mA nA
      go_wp2_with fail
      go_loopw [63] (fun i wr => ∃ x : Nat, x ≤ k ∧ i = .int .i64 x ∧ Hid (Below wc.heap.size wc wr)) (fun i _ => k - (intOf i).toNat)
      case atStart => exact ⟨0, by omega, rfl, Lib.hid (Below.refl _ _)⟩
      case round =>
        obtain ⟨x, hx, rfl, HB⟩ := hrel
        by_cases hlx : x < k
        · go_wp2_with fail
          go_loopw [14] (fun i wr => ∃ y : Nat, k ≤ y ∧ y ≤ s.n ∧ i = .int .i64 y ∧ Hid (Below wc.heap.size wc wr)) (fun i _ => s.n - (intOf i).toNat)
          case atStart => exact ⟨k, by omega, by omega, rfl, HB⟩
          case round =>
            obtain ⟨y, hky, hy, rfl, HB⟩ := hrel
            by_cases hly : y < s.n
            · go_wp2_with (first
                | (go_at_call 8; refine (RS.out _ HB.out x y).mono ?_; clear RS; rintro e W5 ⟨⟨ra, rn, rc, rl⟩, rfl, A1, E1, dd⟩; replace HB := Lib.hid (HB.out.trans (dd.mono HB.out.size)); clear dd; replace A1 := Lib.hid A1; replace E1 := Lib.hid E1; show _; unfold Sl.v; dsimp only)
                | (go_at_call 8; refine (RM.out _ HB.out x ((y : Int) + 1)).mono ?_; clear RM; rintro e W6 ⟨r2, rfl, A2, E2, dd⟩; replace HB := Lib.hid (HB.out.trans (dd.mono HB.out.size)); replace A1 := Lib.hid (A1.out.below dd); clear dd; replace A2 := Lib.hid A2; replace E2 := Lib.hid E2))
              have hM : Hid (∀ r ∈ rl, inOf r2.l r = true) := Lib.hid fun r hr => in_of_mem (by rw [E2.out, mL.out]; exact rules_fence s.l k x y p q hlx hky (by omega) r (E1.out ▸ hr))
              have hrn : rn ≤ 9223372036854775807 := A1.out.2.2.1
              go_loopw [84] (fun i wr => ∃ t : Nat, t ≤ rn ∧ i = .int .i64 t ∧ Hid (Below W6.heap.size W6 wr)) (fun i _ => rn - (intOf i).toNat)
              case atStart => exact ⟨0, by omega, rfl, Lib.hid (Below.refl _ _)⟩
              case round =>
                obtain ⟨t, ht, rfl, HI⟩ := hrel
                by_cases hlt : t < rn
                · obtain ⟨ad, ea, hk2, hc⟩ := sl_cell (A1.out.below HI.out) hlt
                  dsimp only at ea hk2 hc
                  subst ea
                  have hin := Lib.hid (hM.out _ (List.getElem_mem hk2))
                  generalize rl[t] = z at *
                  go_wp2_with (first
                    | (go_at_call 9; refine (In_any r2 z _ (A2.out.below HI.out)).mono ?_; rintro e W7 ⟨he, rfl⟩; replace he := he.trans (congrArg (fun b => Ending.returned (Value.bool b)) hin.out); subst he))
                  go_roundw
                  case rel => exact ⟨t + 1, by omega, by go_num, HI⟩
                  case measure => simp [intOf]; omega
                · clear hM A1 A2 E1 E2
                  replace HB := Lib.hid (HB.out.trans (HI.out.mono HB.out.size))
                  clear HI
                  obtain ⟨ad, e1, h3, hp, h5, h6⟩ := (HS.out.below HB.out).cell (k := x) (by omega)
                  obtain ⟨ad', e', h3', hq, h5', h6'⟩ := (HS.out.below HB.out).cell (k := y) hly
                  have : ad' = ad := by rw [e1] at e'; injection e' with e'; exact e'.symm
                  subst this
                  replace h5 := Lib.hid h5
                  replace h5' := Lib.hid h5'
                  have hxn : ¬ s.n ≤ x := by omega
                  have hyn : ¬ s.n ≤ y := by omega
                  clear e' h3' h6 h6'
                  go_upto_region 22 with fail
                  try simp only [Act.put]
                  have hT : Hid (touchB s.l[x] = true → touchB s.l[y] = true → ruleOf n.l x ((y : Int) + 1) ≠ 0) := Lib.hid fun t1 t2 => by rw [nL.out]; exact rule_fence s.l k x y hlx hky hq hp t1 t2
                  generalize s.l[x] = oa at *
                  generalize s.l[y] = ob at *
                  rw [e1]
                  go_cut [19, 20] from 67 to 132 (fun v1 v2 wx => ∃ g1 g2 : Nat, v1 = .pointer (some ⟨g1, 0, none⟩) ∧ v2 = .pointer (some ⟨g2, 0, none⟩) ∧ Hid (Blk wx g1 oa.cells 29) ∧ Hid (Blk wx g2 ob.cells 29) ∧ Hid (Below wr.heap.size wr wx))
                  case first =>
                    refine wp_region_head 8 (by kernel_rfl) (by decide) (by kernel_rfl) (by kernel_rfl) (by kernel_rfl) (fun _ _ _ _ _ h => h) ?_
                    simp only [List.take_succ_cons, List.take_zero]
                    go_big_quiet_step (fail)
                    go_big_quiet_step (fail)
                    go_big_quiet_step (fail)
                    refine wpQuiet_load rfl 29 _ rfl (ad'.add (x * 17)) rfl oa.cells _ (fun V hV => by obtain ⟨pp, rfl⟩ := hV; exact h5.out.below (by rw [block_add]; exact h3) (below_regrown _ _ _)) Try.underlying29 rfl op_info ?_
                    try simp only [List.getElem_toArray, List.getElem_cons_succ, List.getElem_cons_zero, Act.put, List.setIfInBounds_toArray, List.set_cons_succ, List.set_cons_zero]
                    go_big_quiet_step (fail)
                    go_big_quiet_step (fail)
                    go_big_quiet_step (fail)
                    refine wpQuiet_load rfl 29 _ rfl (ad'.add (y * 17)) rfl ob.cells _ (fun V hV => by obtain ⟨pp, rfl⟩ := hV; exact h5'.out.below (by rw [block_add]; exact h3) (below_regrown _ _ _)) Try.underlying29 rfl op_info ?_
                    try simp only [List.getElem_toArray, List.getElem_cons_succ, List.getElem_cons_zero, Act.put, List.setIfInBounds_toArray, List.set_cons_succ, List.set_cons_zero]
                    refine wpQuiet_nil ?_
                    intro _ hw'
                    obtain ⟨⟨dq, osq⟩, hw''⟩ := hw'
                    subst hw''
                    show wpAnyH Try.prog .any _ _ _ 4 _ _ _
                    have bY := below_regrown wr dq osq
                    generalize Sort.grow (redrawn wr dq) osq = Y at *
                    refine wpAnyH_all (rs := [8, 9]) (by kernel_rfl) (by simp) ?_
                    intro kk hkk
                    simp only [List.mem_cons, List.not_mem_nil, or_false] at hkk
                    rcases hkk with rfl | rfl
                    · refine wpOp_alloc rfl rfl _ rfl _ (alloc_op _) ?_
                      generalize hY : World.alloc Y _ = Y1
                      obtain ⟨c1, d1, z1⟩ := arg_box hY
                      clear hY
                      replace d1 := bY.trans (d1.mono bY.size)
                      refine ⟨regrown_of_below d1, ?_⟩
                      try simp only [List.getElem_toArray, List.getElem_cons_succ, List.getElem_cons_zero, Act.put, List.setIfInBounds_toArray, List.set_cons_succ, List.set_cons_zero]
                      refine wpAnyH_all (rs := [9]) (by kernel_rfl) (by simp) ?_
                      intro kk hkk
                      simp only [List.mem_singleton] at hkk
                      subst hkk
                      refine wpOp_alloc rfl rfl _ rfl _ (alloc_op _) ?_
                      generalize hY : World.alloc Y1 _ = Y2
                      obtain ⟨c2, d2, z2⟩ := arg_box hY
                      replace c1 := c1.below d2
                      clear hY
                      replace d2 := d1.trans (d2.mono d1.size)
                      refine ⟨regrown_of_below d2, ?_⟩
                      try simp only [List.getElem_toArray, List.getElem_cons_succ, List.getElem_cons_zero, Act.put, List.setIfInBounds_toArray, List.set_cons_succ, List.set_cons_zero]
                      have hsY := bY.size
                      refine wpAnyH_all (rs := [10]) (by kernel_rfl) (by simp) ?_
                      intro kk hkk
                      simp only [List.mem_singleton] at hkk
                      subst hkk
                      refine wpOp_store rfl rfl _ _ _ rfl Y.heap.size oa.cells rfl rfl 29 opZero c1 op_info (OpS.len' _).symm (OpS.one oa) ?_
                      generalize hY : World.setRow Y2 _ _ = Y3
                      have e1 := hY ▸ c1.row oa.cells
                      have e2 := hY ▸ c2.rowFar (show Y1.heap.size ≠ Y.heap.size by omega) oa.cells
                      have d3 := hY ▸ below_row d2 (show wr.heap.size ≤ Y.heap.size by omega) oa.cells
                      clear hY
                      refine ⟨regrown_of_below d3, ?_⟩
                      try simp only [List.getElem_toArray, List.getElem_cons_succ, List.getElem_cons_zero, Act.put, List.setIfInBounds_toArray, List.set_cons_succ, List.set_cons_zero]
                      refine wpAnyH_all (rs := [11]) (by kernel_rfl) (by simp) ?_
                      intro kk hkk
                      simp only [List.mem_singleton] at hkk
                      subst hkk
                      refine wpOp_store rfl rfl _ _ _ rfl Y1.heap.size ob.cells rfl rfl 29 opZero e2 op_info (OpS.len' _).symm (OpS.one ob) ?_
                      generalize hY : World.setRow Y3 _ _ = Y4
                      have e3 := hY ▸ e1.rowFar (show Y.heap.size ≠ Y1.heap.size by omega) ob.cells
                      have e4 := hY ▸ e2.row ob.cells
                      have d4 := hY ▸ below_row d3 (show wr.heap.size ≤ Y1.heap.size by omega) ob.cells
                      clear hY
                      refine ⟨regrown_of_below d4, ?_⟩
                      try simp only [List.getElem_toArray, List.getElem_cons_succ, List.getElem_cons_zero, Act.put, List.setIfInBounds_toArray, List.set_cons_succ, List.set_cons_zero]
                      refine wpAnyH_done (by kernel_rfl) ?_ _
                      go_wp2_with fail
                      go_meet
                      case rel => exact ⟨Y.heap.size, Y1.heap.size, rfl, rfl, Lib.hid e3, Lib.hid e4, Lib.hid d4⟩
                    · refine wpOp_alloc rfl rfl _ rfl _ (alloc_op _) ?_
                      generalize hY : World.alloc Y _ = Y1
                      obtain ⟨c1, d1, z1⟩ := arg_box hY
                      clear hY
                      replace d1 := bY.trans (d1.mono bY.size)
                      refine ⟨regrown_of_below d1, ?_⟩
                      try simp only [List.getElem_toArray, List.getElem_cons_succ, List.getElem_cons_zero, Act.put, List.setIfInBounds_toArray, List.set_cons_succ, List.set_cons_zero]
                      refine wpAnyH_all (rs := [8]) (by kernel_rfl) (by simp) ?_
                      intro kk hkk
                      simp only [List.mem_singleton] at hkk
                      subst hkk
                      refine wpOp_alloc rfl rfl _ rfl _ (alloc_op _) ?_
                      generalize hY : World.alloc Y1 _ = Y2
                      obtain ⟨c2, d2, z2⟩ := arg_box hY
                      replace c1 := c1.below d2
                      clear hY
                      replace d2 := d1.trans (d2.mono d1.size)
                      refine ⟨regrown_of_below d2, ?_⟩
                      try simp only [List.getElem_toArray, List.getElem_cons_succ, List.getElem_cons_zero, Act.put, List.setIfInBounds_toArray, List.set_cons_succ, List.set_cons_zero]
                      have hsY := bY.size
                      refine wpAnyH_all (rs := [10]) (by kernel_rfl) (by simp) ?_
                      intro kk hkk
                      simp only [List.mem_singleton] at hkk
                      subst hkk
                      refine wpOp_store rfl rfl _ _ _ rfl Y1.heap.size oa.cells rfl rfl 29 opZero c2 op_info (OpS.len' _).symm (OpS.one oa) ?_
                      generalize hY : World.setRow Y2 _ _ = Y3
                      have e1 := hY ▸ c2.row oa.cells
                      have e2 := hY ▸ c1.rowFar (show Y.heap.size ≠ Y1.heap.size by omega) oa.cells
                      have d3 := hY ▸ below_row d2 (show wr.heap.size ≤ Y1.heap.size by omega) oa.cells
                      clear hY
                      refine ⟨regrown_of_below d3, ?_⟩
                      try simp only [List.getElem_toArray, List.getElem_cons_succ, List.getElem_cons_zero, Act.put, List.setIfInBounds_toArray, List.set_cons_succ, List.set_cons_zero]
                      refine wpAnyH_all (rs := [11]) (by kernel_rfl) (by simp) ?_
                      intro kk hkk
                      simp only [List.mem_singleton] at hkk
                      subst hkk
                      refine wpOp_store rfl rfl _ _ _ rfl Y.heap.size ob.cells rfl rfl 29 opZero e2 op_info (OpS.len' _).symm (OpS.one ob) ?_
                      generalize hY : World.setRow Y3 _ _ = Y4
                      have e3 := hY ▸ e1.rowFar (show Y1.heap.size ≠ Y.heap.size by omega) ob.cells
                      have e4 := hY ▸ e2.row ob.cells
                      have d4 := hY ▸ below_row d3 (show wr.heap.size ≤ Y.heap.size by omega) ob.cells
                      clear hY
                      refine ⟨regrown_of_below d4, ?_⟩
                      try simp only [List.getElem_toArray, List.getElem_cons_succ, List.getElem_cons_zero, Act.put, List.setIfInBounds_toArray, List.set_cons_succ, List.set_cons_zero]
                      refine wpAnyH_done (by kernel_rfl) ?_ _
                      go_wp2_with fail
                      go_meet
                      case rel => exact ⟨Y1.heap.size, Y.heap.size, rfl, rfl, Lib.hid e3, Lib.hid e4, Lib.hid d4⟩
                  case rest =>
                    rw [← e1]
                    obtain ⟨g1, g2, rfl, rfl, B1, B2, dW⟩ := hcut
                    replace HB := Lib.hid (HB.out.trans (dW.out.mono HB.out.size))
                    clear dW h5 h5' e1 h3
                    have q1 := cLoad B1.out
                    have q2 := cStore B1.out
                    have q3 := cFence B1.out
                    have q4 := cLoad B2.out
                    have q5 := cStore B2.out
                    have q6 := cFence B2.out
                    have hF : Hid ((!oa.fence && (oa.load || oa.store)) = true → (!ob.fence && (ob.load || ob.store)) = true → ruleOf n.l x ((y : Int) + 1) ≠ 0) := Lib.hid hT.out
                    clear hT B1 B2
                    generalize oa.fence = f1 at *
                    generalize oa.load = l1 at *
                    generalize oa.store = s1 at *
                    generalize ob.fence = f2 at *
                    generalize ob.load = l2 at *
                    generalize ob.store = s2 at *
                    cases f1
                    · cases f2
                      · cases l1
                        · cases s1
                          · go_wp2_with fail
                            go_roundw
                            case rel => exact ⟨y + 1, by omega, by omega, by go_num, HB⟩
                            case measure => simp [intOf]; omega
                          · have hF := hF.out rfl
                            cases l2
                            · have hF := hF
                              cases s2
                              · go_wp2_with fail
                                go_roundw
                                case rel => exact ⟨y + 1, by omega, by omega, by go_num, HB⟩
                                case measure => simp [intOf]; omega
                              · obtain ⟨ρ, HR, hρ⟩ : ∃ ρ, Hid (ruleOf n.l x ((y : Int) + 1) = ρ) ∧ (ρ == 0) = false := ⟨_, Lib.hid rfl, by simpa using hF rfl⟩
                                go_wp2_with ((go_at_call 10; refine (RN.out _ HB.out x ((y : Int) + 1)).mono ?_; clear RN; rintro e W8 ⟨he, dd⟩; replace he := he.trans (congrArg (fun z => Ending.returned (Value.int .i64 z)) HR.out); subst he; replace HB := Lib.hid (HB.out.trans (dd.mono HB.out.size)); clear dd))
                                go_roundw
                                case rel => exact ⟨y + 1, by omega, by omega, by go_num, HB⟩
                                case measure => simp [intOf]; omega
                            · obtain ⟨ρ, HR, hρ⟩ : ∃ ρ, Hid (ruleOf n.l x ((y : Int) + 1) = ρ) ∧ (ρ == 0) = false := ⟨_, Lib.hid rfl, by simpa using hF rfl⟩
                              go_wp2_with ((go_at_call 10; refine (RN.out _ HB.out x ((y : Int) + 1)).mono ?_; clear RN; rintro e W8 ⟨he, dd⟩; replace he := he.trans (congrArg (fun z => Ending.returned (Value.int .i64 z)) HR.out); subst he; replace HB := Lib.hid (HB.out.trans (dd.mono HB.out.size)); clear dd))
                              go_roundw
                              case rel => exact ⟨y + 1, by omega, by omega, by go_num, HB⟩
                              case measure => simp [intOf]; omega
                        · have hF := hF.out rfl
                          cases l2
                          · have hF := hF
                            cases s2
                            · go_wp2_with fail
                              go_roundw
                              case rel => exact ⟨y + 1, by omega, by omega, by go_num, HB⟩
                              case measure => simp [intOf]; omega
                            · obtain ⟨ρ, HR, hρ⟩ : ∃ ρ, Hid (ruleOf n.l x ((y : Int) + 1) = ρ) ∧ (ρ == 0) = false := ⟨_, Lib.hid rfl, by simpa using hF rfl⟩
                              go_wp2_with ((go_at_call 10; refine (RN.out _ HB.out x ((y : Int) + 1)).mono ?_; clear RN; rintro e W8 ⟨he, dd⟩; replace he := he.trans (congrArg (fun z => Ending.returned (Value.int .i64 z)) HR.out); subst he; replace HB := Lib.hid (HB.out.trans (dd.mono HB.out.size)); clear dd))
                              go_roundw
                              case rel => exact ⟨y + 1, by omega, by omega, by go_num, HB⟩
                              case measure => simp [intOf]; omega
                          · obtain ⟨ρ, HR, hρ⟩ : ∃ ρ, Hid (ruleOf n.l x ((y : Int) + 1) = ρ) ∧ (ρ == 0) = false := ⟨_, Lib.hid rfl, by simpa using hF rfl⟩
                            go_wp2_with ((go_at_call 10; refine (RN.out _ HB.out x ((y : Int) + 1)).mono ?_; clear RN; rintro e W8 ⟨he, dd⟩; replace he := he.trans (congrArg (fun z => Ending.returned (Value.int .i64 z)) HR.out); subst he; replace HB := Lib.hid (HB.out.trans (dd.mono HB.out.size)); clear dd))
                            go_roundw
                            case rel => exact ⟨y + 1, by omega, by omega, by go_num, HB⟩
                            case measure => simp [intOf]; omega
                      · go_wp2_with fail
                        go_roundw
                        case rel => exact ⟨y + 1, by omega, by omega, by go_num, HB⟩
                        case measure => simp [intOf]; omega
                    · go_wp2_with fail
                      go_roundw
                      case rel => exact ⟨y + 1, by omega, by omega, by go_num, HB⟩
                      case measure => simp [intOf]; omega
            · go_wp2_with fail
              go_roundw
              case rel => exact ⟨x + 1, by omega, by go_num, HB⟩
              case measure => simp [intOf]; omega
        · go_wp2_with (first
            | (go_at_call 7; refine (lives_any _).mono ?_; rintro e W ⟨rfl, dd⟩; replace HB := Lib.hid (HB.out.trans (dd.mono HB.out.size)); clear dd))
          go_ret
          exact ⟨rfl, HD3.out.trans (HB.out.mono HD3.out.size)⟩
end Go.Proofs.Ytdfapbfpmjbnhaa.Hand
