/- DERIVED. A region that draws its order: some operations, wherever they stand, only look and are taken first; calls come up one by one behind them. No program. -/
import Derived.Test.YtcjfafhbohkhlaaGreatMQHead
namespace Go.Proofs.YtcjfafhbohkhlaaGreat.M
open Go Go.RowKit Go.Sort
set_option linter.unusedVariables false
def headK (md : Region.Mode) (ops : Array Oper) : List Nat → Array Bool → Bool
  | [], _ => true
  | k :: ks, listed => (Region.ready md ops listed).contains k && Region.free md ops listed k && headK md ops ks (listed.setIfInBounds k true)
def headKL : List Nat → Array Bool → Array Bool
  | [], listed => listed
  | k :: ks, listed => headKL ks (listed.setIfInBounds k true)
theorem wpAnyH_picks {P : Program} {md : Region.Mode} {ops : Array Oper} {C : World → Prop} {Q : Exit → Act → World → Prop} {L : Act → Prop} {g : Nat} (hs : Region.noSelect ops = true) (hQ : ∀ c a d v w, Q (.panic c) (Act.put a (some d) v) w → Q (.panic c) a w) :
    ∀ (ks : List Nat) (l : List Oper) (listed : Array Bool) (a : Act) (w : World), ks.map (fun k => ops[k]?) = l.map some → headK md ops ks listed = true → l.all onlyLooks = true →
      (∀ a' w', L a' → C w' → wpAnyH P md ops Q C g (headKL ks listed) a' w') → wpQuiet P ops C L l a → C w → wpAnyH P md ops Q C (ks.length + g) listed a w
  | [], [], listed, a, w, _, _, _, hL, h, hC => by
    rw [List.length_nil, Nat.zero_add]
    exact hL a w h hC
  | [], _ :: _, _, _, _, hl, _, _, _, _, _ => by simp at hl
  | _ :: _, [], _, _, _, hl, _, _, _, _, _ => by simp at hl
  | k :: ks, o :: l, listed, a, w, hl, hB, hp, hL, h, hC => by
    simp only [List.map_cons, List.cons.injEq] at hl
    have h0 : ops[k]? = some o := hl.1
    simp only [headK, Bool.and_eq_true] at hB
    obtain ⟨⟨hr, hf⟩, hB'⟩ := hB
    simp only [List.all_cons, Bool.and_eq_true] at hp
    have hst : qOp P ops C k (wpQuiet P ops C L l) a := by unfold qOp; simp only [h0]; exact h
    obtain ⟨v, hy, hK⟩ := yieldsIn_of_qOp h0 hst
    rw [List.length_cons, show ks.length + 1 + g = (ks.length + g) + 1 by omega]
    exact wpAnyH_take h0 hs hf hr (fun c a w h => by
        cases hd : o.dst with
        | none => rw [hd] at h; exact h
        | some d => rw [hd] at h; exact hQ c a d v w h) (yieldsIf_of_in hp.1 hy) hC
      (wpAnyH_picks hs hQ ks l _ _ _ hl.2 hB' hp.2 hL hK hC)
/-- These operations look only, and come first; what comes up behind them is walked in every order. -/
theorem wp_region_picks {P : Program} {id : Nat} {Q : Exit → Act → World → Prop} {a : Act} {w : World} {l : List Oper} (ks : List Nat) (l' : List Oper) (hl : ks.map (fun k => l.toArray[k]?) = l'.map some) (hm : P.follows .mixedOrders = true) (hn : ks.length ≤ l.length) (hs : Region.noSelect l.toArray = true)
    (hp : l'.all onlyLooks = true) (hB : headK .any l.toArray ks (Array.replicate l.toArray.size false) = true) (hQ : ∀ c a d v w, Q (.panic c) (Act.put a (some d) v) w → Q (.panic c) a w)
    (h : wpQuiet P l.toArray (fun w' => ∃ p : Regrown, w' = grow (redrawn w p.d) p.os) (fun a' => ∀ w', (∃ p : Regrown, w' = grow (redrawn w p.d) p.os) →
      wpAnyH P .any l.toArray Q (fun w' => ∃ p : Regrown, w' = grow (redrawn w p.d) p.os) (l.length - ks.length) (headKL ks (Array.replicate l.toArray.size false)) a' w') l' a) : (Code.region id l.toArray true).wp P Q a w := by
  refine wp_region_held (S := fun w' => ∃ p : Regrown, w' = grow (redrawn w p.d) p.os) hm ?_
  have hC : ∃ p : Regrown, ({ w with drawn := w.drawn + 1 } : World) = grow (redrawn w p.d) p.os := ⟨⟨w.drawn + 1, #[]⟩, by rw [grow_empty]; rfl⟩
  have H := wpAnyH_picks (md := .any) (P := P) (ops := l.toArray) (C := fun w' => ∃ p : Regrown, w' = grow (redrawn w p.d) p.os) (Q := Q) (g := l.length - ks.length) hs hQ ks l' (Array.replicate l.toArray.size false) a { w with drawn := w.drawn + 1 }
    hl hB hp (fun a' w' h1 h2 => h1 w' h2) h hC
  rw [show ks.length + (l.length - ks.length) = l.toArray.size by simp; omega] at H
  exact H
/-- A call that comes up. -/
theorem wpOp_calls {P : Program} {ops : Array Oper} {Q : Exit → Act → World → Prop} {i : Nat} {o : Oper} {K : Act → World → Prop} {a : Act} {w : World} (ho : ops[i]? = some o) (hw : Region.wanted o (yielded ops a.tmps) = true) {f : FuncId} {args : Array Value}
    (hr : (execOp a.eval o).run P w = .ok (.enter f args) w) (h : Calls P f args w fun e w' => ∃ v, e = .returned v ∧ K (a.put o.dst v) w') : wpOp P ops Q i K a w := by
  unfold Go.wpOp
  simp only [ho, hw, if_true]
  refine .inl ?_
  unfold Oper.wp
  rw [hr]
  exact h.mono fun e w' he => by
    obtain ⟨v, rfl, hk⟩ := he
    exact hk
end Go.Proofs.YtcjfafhbohkhlaaGreat.M
