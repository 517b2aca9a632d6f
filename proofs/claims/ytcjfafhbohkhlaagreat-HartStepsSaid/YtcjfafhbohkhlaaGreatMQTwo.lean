/- DERIVED. A region that draws its order and stores at its end: looks may be taken first, if the stores wait for them; the class of worlds is to be shown only while no store has come up. No program. -/
import Derived.Test.YtcjfafhbohkhlaaGreatMQOne
namespace Go.Proofs.YtcjfafhbohkhlaaGreat.M
open Go Go.RowKit Go.Sort
set_option linter.unusedVariables false
/-- None of these has come up. -/
def quietL (T : List Nat) (listed : Array Bool) : Bool := T.all fun t => !(listed.getD t false)
theorem quietL_set {T : List Nat} {listed : Array Bool} {i : Nat} (hi : T.contains i = false) : quietL T (listed.setIfInBounds i true) = quietL T listed := by
  unfold quietL
  rw [Bool.eq_iff_iff]
  simp only [List.all_eq_true]
  have key : ∀ t ∈ T, (listed.setIfInBounds i true).getD t false = listed.getD t false := fun t ht => by
    have hne : i ≠ t := fun e => by subst e; simp at hi; exact hi ht
    simp only [Array.getD_eq_getD_getElem?, Array.getElem?_setIfInBounds]
    rw [if_neg hne]
  constructor
  · intro h t ht
    rw [← key t ht]; exact h t ht
  · intro h t ht
    rw [key t ht]; exact h t ht
section
variable {P : Program} {md : Region.Mode} {ops : Array Oper} {C : World → Prop} {Q : Exit → Act → World → Prop} {T : List Nat}
/-- One waits for another, through others too. -/
def waitsN (md : Region.Mode) (ops : Array Oper) : Nat → Nat → Nat → Bool
  | 0, _, _ => false
  | f + 1, j, i => match ops[j]? with
    | some oj => oj.after.any fun e => Region.binds md e && (e.on == i || waitsN md ops f e.on i)
    | none => false
/-- What has come up had all come up that it waits for. -/
def Closed (md : Region.Mode) (ops : Array Oper) (listed : Array Bool) : Prop :=
  ∀ j oj, ops[j]? = some oj → listed.getD j false = true → ∀ e ∈ oj.after, Region.binds md e = true → listed.getD e.on false = true
theorem listed_of_waits {listed : Array Bool} (hc : Closed md ops listed) : ∀ (f : Nat) (j i : Nat) (oj : Oper), ops[j]? = some oj → (∀ e ∈ oj.after, Region.binds md e = true → listed.getD e.on false = true) → waitsN md ops f j i = true → listed.getD i false = true
  | 0, j, i, oj, _, _, h => by cases h
  | f + 1, j, i, oj, hj, ha, h => by
    unfold waitsN at h
    simp only [hj] at h
    obtain ⟨e, he, hb⟩ := Array.any_eq_true'.1 h
    simp only [Bool.and_eq_true, Bool.or_eq_true, beq_iff_eq] at hb
    have h1 := ha e he hb.1
    rcases hb.2 with h2 | h2
    · rw [← h2]; exact h1
    · cases ho : ops[e.on]? with
      | none =>
        cases f with
        | zero => cases h2
        | succ f => unfold waitsN at h2; simp only [ho] at h2; cases h2
      | some oe => exact listed_of_waits hc f e.on i oe ho (hc e.on oe ho h1) h2
def closedB (md : Region.Mode) (ops : Array Oper) (listed : Array Bool) : Bool :=
  (List.range ops.size).all fun j => match ops[j]? with
    | some oj => !(listed.getD j false) || oj.after.all (fun e => !(Region.binds md e) || listed.getD e.on false)
    | none => true
theorem Closed.of_b {listed : Array Bool} (h : closedB md ops listed = true) : Closed md ops listed := by
  intro j oj hj hl e he hb
  unfold closedB at h
  rw [List.all_eq_true] at h
  have h1 := h j (List.mem_range.2 (Array.getElem?_eq_some_iff.1 hj).1)
  simp only [hj, hl, Bool.not_true, Bool.false_or] at h1
  rw [Array.all_eq_true'] at h1
  have h2 := h1 e he
  rw [hb] at h2
  simpa using h2
theorem Closed.set {listed : Array Bool} {i : Nat} (hc : Closed md ops listed) (hi : i ∈ Region.ready md ops listed) : Closed md ops (listed.setIfInBounds i true) := by
  obtain ⟨hun, oi, hoi, hall⟩ := mem_ready.1 hi
  have up : ∀ k, listed.getD k false = true → (listed.setIfInBounds i true).getD k false = true := fun k hk => by
    simp only [Array.getD_eq_getD_getElem?, Array.getElem?_setIfInBounds] at hk ⊢
    split
    · rename_i e
      subst e
      split
      · rfl
      · rename_i hs; rw [Array.getElem?_eq_none (by omega)] at hk; exact hk
    · exact hk
  intro j oj hj hl e he hb
  by_cases hji : i = j
  · subst hji
    rw [hoi] at hj
    injection hj with hj
    subst hj
    exact up _ (hall e he hb)
  · refine up _ (hc j oj hj ?_ e he hb)
    simp only [Array.getD_eq_getD_getElem?, Array.getElem?_setIfInBounds] at hl ⊢
    rw [if_neg hji] at hl
    exact hl
theorem Closed.start (n : Nat) : Closed md ops (Array.replicate n false) := fun j oj _ hl => by rw [getD_replicate_false] at hl; cases hl
def wpAnyT (P : Program) (md : Region.Mode) (ops : Array Oper) (Q : Exit → Act → World → Prop) (C : World → Prop) (T : List Nat) : Nat → Array Bool → Act → World → Prop
  | 0, listed, a, w => Region.ready md ops listed = [] ∧ Q .normal a w
  | fuel + 1, listed, a, w =>
    (Region.ready md ops listed = [] → Q .normal a w) ∧
    ∀ i ∈ Region.ready md ops listed, wpOp P ops Q i (fun a' w' => (quietL T (listed.setIfInBounds i true) = true → C w') ∧ wpAnyT P md ops Q C T fuel (listed.setIfInBounds i true) a' w') a w
theorem wpAny_of_two : ∀ (fuel : Nat) (listed : Array Bool) (a : Act) (w : World), wpAnyT P md ops Q C T fuel listed a w → wpAny P md ops Q fuel listed a w
  | 0, _, _, _, h => h
  | fuel + 1, _, _, _, h => ⟨h.1, fun i hi => wpOp_mono (fun a' w' h' => wpAny_of_two fuel _ a' w' h'.2) (h.2 i hi)⟩
theorem wpAnyT_first (b : Bool) {i : Nat} {oi : Oper} {v : Value} (hi : ops[i]? = some oi) (hsel : ∀ (j : Nat) (o : Oper) cs c, ops[j]? = some o → o.op ≠ .select cs c)
    (hQ : ∀ c a w, Q (.panic c) (a.put oi.dst v) w → Q (.panic c) a w) (hiT : T.contains i = false) (hb : b = true → ∀ t, T.contains t = true → waitsN md ops 9 t i = true) :
    ∀ (fuel : Nat) (listed : Array Bool) (a : Act) (w : World),
      (∀ j oj, ops[j]? = some oj → j ≠ i → listed.getD j true = false → (∀ e ∈ oj.after, Region.binds md e = true → e.on ≠ i) → oi.apart ops oj = true) →
      i ∈ Region.ready md ops listed → YieldsIf P ops (fun w => b = true → C w) oi v a → (quietL T listed = true → C w) → (b = true → quietL T listed = true ∧ Closed md ops listed) →
      wpAnyT P md ops Q C T fuel (listed.setIfInBounds i true) (a.put oi.dst v) w → wpAnyT P md ops Q C T (fuel + 1) listed a w := by
  intro fuel
  induction fuel with
  | zero =>
    intro listed a w _ hr hy hS hq H
    refine ⟨fun h => (by rw [h] at hr; cases hr), fun j hj => ?_⟩
    by_cases hji : j = i
    · subst hji; exact hy.wpOp hi (fun e => hS (hq e).1) ⟨fun e => hS (by rw [quietL_set hiT] at e; exact e), H⟩
    · have := ready_mono hj hji
      rw [H.1] at this
      cases this
  | succ fuel ih =>
    intro listed a w hfree hr hy hS hq H
    refine ⟨fun h => (by rw [h] at hr; cases hr), fun j hj => ?_⟩
    by_cases hji : j = i
    · subst hji; exact hy.wpOp hi (fun e => hS (hq e).1) ⟨fun e => hS (by rw [quietL_set hiT] at e; exact e), H⟩
    · have h1 := H.2 j (ready_mono hj hji)
      obtain ⟨hjun, oj, hoj, hall⟩ := mem_ready.1 hj
      have hnot : ∀ e ∈ oj.after, Region.binds md e = true → e.on ≠ i := fun e he hb heq => by
        have h1 := hall e he hb
        have h0 := (mem_ready.1 hr).1
        rw [heq] at h1
        rcases Nat.lt_or_ge i listed.size with h' | h'
        · simp [h'] at h0 h1; rw [h0] at h1; cases h1
        · simp [Array.getElem?_eq_none h'] at h1
      have hjT : b = true → T.contains j = false := fun e => by
        cases hc : T.contains j with
        | false => rfl
        | true =>
          have h5 := listed_of_waits (hq e).2 9 j i oj hoj hall (hb e j hc)
          rw [getD_both (mem_ready.1 hr).1] at h5
          cases h5
      have h2 := wpOp_putIf hoj (hfree j oj hoj hji hjun hnot) (fun cs b => hsel i oi cs b hi) (fun cs b => hsel j oj cs b hoj) hQ hy h1
      have hfree' : ∀ k ok, ops[k]? = some ok → k ≠ i → (listed.setIfInBounds j true).getD k true = false →
          (∀ e ∈ ok.after, Region.binds md e = true → e.on ≠ i) → oi.apart ops ok = true := fun k ok hk hki hun hno => by
        refine hfree k ok hk hki ?_ hno
        by_cases hjk : j = k
        · subst hjk; exact hjun
        · rw [getD_set_ne true hjk] at hun; exact hun
      refine wpOp_mono (fun a' w' h3 => ?_) h2
      have hC : quietL T (listed.setIfInBounds j true) = true → C w' := fun e => h3.2.1 (by rw [Array.setIfInBounds_comm _ _ (Ne.symm hji), quietL_set hiT]; exact e)
      refine ⟨hC, ih (listed.setIfInBounds j true) a' w' hfree' (ready_mono hr (Ne.symm hji)) h3.1 hC (fun e => ⟨by rw [quietL_set (hjT e)]; exact (hq e).1, (hq e).2.set hj⟩) ?_⟩
      rw [Array.setIfInBounds_comm _ _ hji]
      exact h3.2.2
theorem wpAnyT_all {rs : List Nat} {fuel : Nat} {listed : Array Bool} {a : Act} {w : World} (hr : Region.ready md ops listed = rs) (hne : rs ≠ [])
    (h : ∀ i ∈ rs, wpOp P ops Q i (fun a' w' => (quietL T (listed.setIfInBounds i true) = true → C w') ∧ wpAnyT P md ops Q C T fuel (listed.setIfInBounds i true) a' w') a w) : wpAnyT P md ops Q C T (fuel + 1) listed a w :=
  ⟨fun h0 => absurd (hr ▸ h0) hne, hr ▸ h⟩
theorem wpAnyT_done {listed : Array Bool} {a : Act} {w : World} (hr : Region.ready md ops listed = []) (h : Q .normal a w) : ∀ fuel, wpAnyT P md ops Q C T fuel listed a w
  | 0 => ⟨hr, h⟩
  | _ + 1 => ⟨fun _ => h, by rw [hr]; simp⟩
/-- A look that needs no world at all is taken first. -/
theorem wpAnyT_take {i : Nat} {oi : Oper} {v : Value} {fuel : Nat} {listed : Array Bool} {a : Act} {w : World} (hi : ops[i]? = some oi)
    (hs : Region.noSelect ops = true) (hf : Region.free md ops listed i = true) (hr : (Region.ready md ops listed).contains i = true) (hiT : T.contains i = false)
    (hQ : ∀ c a w, Q (.panic c) (a.put oi.dst v) w → Q (.panic c) a w) (hy : YieldsIf P ops (fun _ => True) oi v a) (hS : quietL T listed = true → C w)
    (h : wpAnyT P md ops Q C T fuel (listed.setIfInBounds i true) (a.put oi.dst v) w) : wpAnyT P md ops Q C T (fuel + 1) listed a w :=
  wpAnyT_first false hi (Region.noSelect_spec hs) hQ hiT (fun e => by cases e) fuel listed a w (Region.free_spec hi hf) (by simpa using hr) (hy.imp (fun ⟨h1, h2⟩ => ⟨h1, fun w _ => h2 w trivial⟩) id) hS (fun e => by cases e) h
/-- A look at the class's worlds is taken first, if the stores wait for it. -/
theorem wpAnyT_look {i : Nat} {oi : Oper} {v : Value} {fuel : Nat} {listed : Array Bool} {a : Act} {w : World} (hi : ops[i]? = some oi)
    (hs : Region.noSelect ops = true) (hf : Region.free md ops listed i = true) (hr : (Region.ready md ops listed).contains i = true) (hiT : T.contains i = false) (hw : (T.all fun t => waitsN md ops 9 t i) = true)
    (hQ : ∀ c a w, Q (.panic c) (a.put oi.dst v) w → Q (.panic c) a w) (hy : YieldsIf P ops C oi v a) (hS : C w) (hq : quietL T listed = true) (hcl : Closed md ops listed)
    (h : Closed md ops (listed.setIfInBounds i true) → wpAnyT P md ops Q C T fuel (listed.setIfInBounds i true) (a.put oi.dst v) w) : wpAnyT P md ops Q C T (fuel + 1) listed a w :=
  wpAnyT_first true hi (Region.noSelect_spec hs) hQ hiT (fun _ t ht => by rw [List.all_eq_true] at hw; exact hw t (by simpa using ht)) fuel listed a w (Region.free_spec hi hf) (by simpa using hr) (hy.imp (fun ⟨h1, h2⟩ => ⟨h1, fun w hw => h2 w (hw rfl)⟩) id) (fun _ => hS) (fun _ => ⟨hq, hcl⟩) (h (hcl.set (by simpa using hr)))
def headT (md : Region.Mode) (ops : Array Oper) (T : List Nat) : List Nat → Array Bool → Bool
  | [], _ => true
  | k :: ks, listed => (Region.ready md ops listed).contains k && Region.free md ops listed k && !(T.contains k) && (T.all fun t => waitsN md ops 9 t k) && headT md ops T ks (listed.setIfInBounds k true)
theorem wpAnyT_picks {L : Act → Prop} {g : Nat} (hs : Region.noSelect ops = true) (hQ : ∀ c a d v w, Q (.panic c) (Act.put a (some d) v) w → Q (.panic c) a w) :
    ∀ (ks : List Nat) (l : List Oper) (listed : Array Bool) (a : Act) (w : World), ks.map (fun k => ops[k]?) = l.map some → headT md ops T ks listed = true → l.all onlyLooks = true → quietL T listed = true → Closed md ops listed →
      (∀ a' w', L a' → C w' → wpAnyT P md ops Q C T g (headKL ks listed) a' w') → wpQuiet P ops C L l a → C w → wpAnyT P md ops Q C T (ks.length + g) listed a w
  | [], [], listed, a, w, _, _, _, _, _, hL, h, hC => by
    rw [List.length_nil, Nat.zero_add]
    exact hL a w h hC
  | [], _ :: _, _, _, _, hl, _, _, _, _, _, _, _ => by simp at hl
  | _ :: _, [], _, _, _, hl, _, _, _, _, _, _, _ => by simp at hl
  | k :: ks, o :: l, listed, a, w, hl, hB, hp, hq, hcl, hL, h, hC => by
    simp only [List.map_cons, List.cons.injEq] at hl
    have h0 : ops[k]? = some o := hl.1
    simp only [headT, Bool.and_eq_true, Bool.not_eq_true'] at hB
    obtain ⟨⟨⟨⟨hr, hf⟩, hT⟩, hw⟩, hB'⟩ := hB
    simp only [List.all_cons, Bool.and_eq_true] at hp
    have hst : qOp P ops C k (wpQuiet P ops C L l) a := by unfold qOp; simp only [h0]; exact h
    obtain ⟨v, hy, hK⟩ := yieldsIn_of_qOp h0 hst
    rw [List.length_cons, show ks.length + 1 + g = (ks.length + g) + 1 by omega]
    refine wpAnyT_first true h0 (Region.noSelect_spec hs) (fun c a w h => by
        cases hd : o.dst with
        | none => rw [hd] at h; exact h
        | some d => rw [hd] at h; exact hQ c a d v w h) hT (fun _ t ht => ?_) _ listed a w (Region.free_spec h0 hf) (by simpa using hr) ((yieldsIf_of_in hp.1 hy).imp (fun ⟨h1, h2⟩ => ⟨h1, fun w hw => h2 w (hw rfl)⟩) id) (fun _ => hC) (fun _ => ⟨hq, hcl⟩) ?_
    · rw [List.all_eq_true] at hw
      exact hw t (by simpa using ht)
    · exact wpAnyT_picks hs hQ ks l _ _ _ hl.2 hB' hp.2 (by rw [quietL_set hT]; exact hq) (hcl.set (by simpa using hr)) hL hK hC
end
/-- More looks, in the midst. -/
theorem wpAnyT_more {P : Program} {ops : Array Oper} {C : World → Prop} {Q : Exit → Act → World → Prop} {T : List Nat} {listed : Array Bool} {a : Act} {w : World} {g : Nat} (ks : List Nat) (l : List Oper) (hl : ks.map (fun k => ops[k]?) = l.map some) (hs : Region.noSelect ops = true)
    (hQ : ∀ c a d v w, Q (.panic c) (Act.put a (some d) v) w → Q (.panic c) a w) (hB : headT .any ops T ks listed = true) (hp : l.all onlyLooks = true) (hq : quietL T listed = true) (hcl : closedB .any ops listed = true) (hC : C w)
    (h : wpQuiet P ops C (fun a' => ∀ w', C w' → wpAnyT P .any ops Q C T g (headKL ks listed) a' w') l a) : wpAnyT P .any ops Q C T (ks.length + g) listed a w :=
  wpAnyT_picks hs hQ ks l listed a w hl hB hp hq (Closed.of_b hcl) (fun a' w' h1 h2 => h1 w' h2) h hC
/-- The looks come first; then what else comes up, the stores T last. -/
theorem wp_region_two {P : Program} {id : Nat} {Q : Exit → Act → World → Prop} {a : Act} {w : World} {l : List Oper} (T ks : List Nat) (l' : List Oper) (hl : ks.map (fun k => l.toArray[k]?) = l'.map some) (hm : P.follows .mixedOrders = true) (hn : ks.length ≤ l.length) (hs : Region.noSelect l.toArray = true)
    (hp : l'.all onlyLooks = true) (hB : headT .any l.toArray T ks (Array.replicate l.toArray.size false) = true) (hq : quietL T (Array.replicate l.toArray.size false) = true) (hQ : ∀ c a d v w, Q (.panic c) (Act.put a (some d) v) w → Q (.panic c) a w)
    (h : wpQuiet P l.toArray (fun w' => ∃ p : Regrown, w' = grow (redrawn w p.d) p.os) (fun a' => ∀ w', (∃ p : Regrown, w' = grow (redrawn w p.d) p.os) →
      wpAnyT P .any l.toArray Q (fun w' => ∃ p : Regrown, w' = grow (redrawn w p.d) p.os) T (l.length - ks.length) (headKL ks (Array.replicate l.toArray.size false)) a' w') l' a) : (Code.region id l.toArray true).wp P Q a w := by
  have hC : ∃ p : Regrown, ({ w with drawn := w.drawn + 1 } : World) = grow (redrawn w p.d) p.os := ⟨⟨w.drawn + 1, #[]⟩, by rw [grow_empty]; rfl⟩
  have H := wpAnyT_picks (md := .any) (P := P) (ops := l.toArray) (C := fun w' => ∃ p : Regrown, w' = grow (redrawn w p.d) p.os) (Q := Q) (T := T) (g := l.length - ks.length) hs hQ ks l' (Array.replicate l.toArray.size false) a { w with drawn := w.drawn + 1 }
    hl hB hp hq (Closed.start _) (fun a' w' h1 h2 => h1 w' h2) h hC
  rw [show ks.length + (l.length - ks.length) = l.toArray.size by simp; omega] at H
  exact wp_region_any hm (wpAny_of_two _ _ _ _ H)
/-- The beginning, without a look. -/
theorem wp_region_two0 {P : Program} {id : Nat} {Q : Exit → Act → World → Prop} {a : Act} {w : World} {l : List Oper} (T : List Nat) (hm : P.follows .mixedOrders = true)
    (h : (∃ p : Regrown, ({ w with drawn := w.drawn + 1 } : World) = grow (redrawn w p.d) p.os) → Closed .any l.toArray (Array.replicate l.toArray.size false) → wpAnyT P .any l.toArray Q (fun w' => ∃ p : Regrown, w' = grow (redrawn w p.d) p.os) T l.toArray.size (Array.replicate l.toArray.size false) a { w with drawn := w.drawn + 1 }) : (Code.region id l.toArray true).wp P Q a w :=
  wp_region_any hm (wpAny_of_two _ _ _ _ (h ⟨⟨w.drawn + 1, #[]⟩, by rw [grow_empty]; rfl⟩ (Closed.start _)))
end Go.Proofs.YtcjfafhbohkhlaaGreat.M
