/- DERIVED. A region that draws its order: first operations that only look (each with one value in every world of a class), whatever comes behind them. No program. -/
import Derived.StillTail
import Derived.BigQuiet
import Derived.Lib.QuietBelow
import Derived.OrdersHeld
import Derived.Test.YtcjfafhbohkhlaaGreatMReg
namespace Go.Proofs.YtcjfafhbohkhlaaGreat.M
open Go Go.RowKit Go.Sort
set_option linter.unusedVariables false
def onlyLooks (o : Oper) : Bool := match o.op with | .move _ => true | .load _ _ => true | .indexAddr _ _ _ => true | .binOp _ _ _ _ _ => true | .slice _ _ _ _ _ => true | .build _ _ => true | .fieldAddr _ _ _ => true | _ => false
section
variable {P : Program} {md : Region.Mode} {ops : Array Oper} {C : World → Prop}
theorem quiet_value {s : Sem Value} {w : World} {v : Value} (h : Oper.quietUpon P C w v ((do pure (Next.value (← s)) : Sem Next).run P w)) : (do pure (Next.value (← s)) : Sem Next).run P w = .ok (.value v) w := by
  simp only [Sem.run_bind] at h ⊢
  cases hr : s.run P w with
  | ok u w' =>
    rw [hr] at h
    simp [Sem.run_pure, Oper.quietUpon] at h ⊢
    exact ⟨h.2, h.1⟩
  | halt x w' =>
    rw [hr] at h
    simp [Result.andThen, Oper.quietUpon] at h
theorem yieldsIf_of_in {o : Oper} {v : Value} {a : Act} (hp : onlyLooks o = true) (h : YieldsIn P ops C o v a) : YieldsIf P ops C o v a := by
  rcases h with ⟨h1, h2⟩ | h
  · refine .inl ⟨h1, fun w hw => ?_⟩
    have h3 := h2 w hw
    unfold Oper.quietAt at h3
    unfold onlyLooks at hp
    split at hp
    · rename_i x hx
      simp [execOp, hx, Sem.run_pure, Oper.quietUpon] at h3 ⊢
      exact h3
    all_goals first | contradiction | (rename_i hx; simp only [execOp, hx] at h3 ⊢; exact quiet_value h3)
  · exact .inr h
def headB (md : Region.Mode) (ops : Array Oper) : Nat → Nat → Array Bool → Bool
  | 0, _, _ => true
  | f + 1, k, listed => (Region.ready md ops listed).contains k && Region.free md ops listed k && headB md ops f (k + 1) (listed.setIfInBounds k true)
def headL : Nat → Nat → Array Bool → Array Bool
  | 0, _, listed => listed
  | f + 1, k, listed => headL f (k + 1) (listed.setIfInBounds k true)
theorem wpAnyH_head {Q : Exit → Act → World → Prop} {L : Act → Prop} {g : Nat} (hs : Region.noSelect ops = true) (hQ : ∀ c a d v w, Q (.panic c) (Act.put a (some d) v) w → Q (.panic c) a w) :
    ∀ (l : List Oper) (k : Nat) (listed : Array Bool) (a : Act) (w : World), (∀ j, j < l.length → l[j]? = ops[k + j]?) → headB md ops l.length k listed = true → l.all onlyLooks = true →
      (∀ a' w', L a' → C w' → wpAnyH P md ops Q C g (headL l.length k listed) a' w') → wpQuiet P ops C L l a → C w → wpAnyH P md ops Q C (l.length + g) listed a w
  | [], k, listed, a, w, _, _, _, hL, h, hC => by
    rw [List.length_nil, Nat.zero_add]
    exact hL a w h hC
  | o :: l, k, listed, a, w, hl, hB, hp, hL, h, hC => by
    have h0 : ops[k]? = some o := by simpa using (hl 0 (by simp)).symm
    simp only [List.length_cons, headB, Bool.and_eq_true] at hB
    obtain ⟨⟨hr, hf⟩, hB'⟩ := hB
    simp only [List.all_cons, Bool.and_eq_true] at hp
    have hst : qOp P ops C k (wpQuiet P ops C L l) a := by unfold qOp; simp only [h0]; exact h
    obtain ⟨v, hy, hK⟩ := yieldsIn_of_qOp h0 hst
    rw [List.length_cons, show l.length + 1 + g = (l.length + g) + 1 by omega]
    exact wpAnyH_take h0 hs hf hr (fun c a w h => by
        cases hd : o.dst with
        | none => rw [hd] at h; exact h
        | some d => rw [hd] at h; exact hQ c a d v w h) (yieldsIf_of_in hp.1 hy) hC
      (wpAnyH_head hs hQ l (k + 1) _ _ _ (fun j hj => by have := hl (j + 1) (by simp; omega); simpa [Nat.add_assoc, Nat.add_comm 1 j] using this) hB' hp.2 hL hK hC)
end
/-- The first n operations look only; what comes up behind them is walked in every order. -/
theorem wp_region_head {P : Program} {id : Nat} {Q : Exit → Act → World → Prop} {a : Act} {w : World} {l : List Oper} (n : Nat) (hm : P.follows .mixedOrders = true) (hn : n ≤ l.length) (hs : Region.noSelect l.toArray = true)
    (hp : (l.take n).all onlyLooks = true) (hB : headB .any l.toArray n 0 (Array.replicate l.toArray.size false) = true) (hQ : ∀ c a d v w, Q (.panic c) (Act.put a (some d) v) w → Q (.panic c) a w)
    (h : wpQuiet P l.toArray (fun w' => ∃ p : Regrown, w' = grow (redrawn w p.d) p.os) (fun a' => ∀ w', (∃ p : Regrown, w' = grow (redrawn w p.d) p.os) →
      wpAnyH P .any l.toArray Q (fun w' => ∃ p : Regrown, w' = grow (redrawn w p.d) p.os) (l.length - n) (headL n 0 (Array.replicate l.toArray.size false)) a' w') (l.take n) a) : (Code.region id l.toArray true).wp P Q a w := by
  refine wp_region_held (S := fun w' => ∃ p : Regrown, w' = grow (redrawn w p.d) p.os) hm ?_
  have htl : (l.take n).length = n := by simp; omega
  have hC : ∃ p : Regrown, ({ w with drawn := w.drawn + 1 } : World) = grow (redrawn w p.d) p.os := ⟨⟨w.drawn + 1, #[]⟩, by rw [grow_empty]; rfl⟩
  have H := wpAnyH_head (md := .any) (P := P) (ops := l.toArray) (C := fun w' => ∃ p : Regrown, w' = grow (redrawn w p.d) p.os) (Q := Q) (g := l.length - n) hs hQ (l.take n) 0 (Array.replicate l.toArray.size false) a { w with drawn := w.drawn + 1 }
    (fun j hj => by rw [htl] at hj; simp [hj]) (by rw [htl]; exact hB) hp (fun a' w' h1 h2 => by rw [htl]; exact h1 w' h2) h hC
  rw [htl, show n + (l.length - n) = l.toArray.size by simp; omega] at H
  exact H
/-- A struct, built in the quiet part. -/
theorem wpQuiet_build {P : Program} {C : World → Prop} {ops : Array Oper} {L : Act → Prop} {rest : List Oper} {o : Oper} {a : Act} (hg : o.guard = none) (ty : TypeId) (xs : Array (Nat × Operand)) (ho : o.op = .build ty xs) (vs : Array (Nat × Value)) (hx : xs.map (fun (i, x) => (i, a.eval x)) = vs) (v : Value)
    (hr : ∀ V, (Instr.build ty vs).run P V = .ok v V) (h : wpQuiet P ops C L rest (a.put o.dst v)) : wpQuiet P ops C L (o :: rest) a := by
  have hw : Region.wanted o (yielded ops a.tmps) = true := by unfold Region.wanted; rw [hg]
  unfold wpQuiet
  rw [if_pos hw]
  refine ⟨v, fun V hV => ?_, h⟩
  unfold Oper.quietAt execOp
  simp only [ho, hx, Sem.run_bind, hr V, Result.andThen_ok, Sem.run_pure]
  exact ⟨rfl, rfl⟩
/-- A whole struct, loaded in the quiet part. -/
theorem wpQuiet_load {P : Program} {C : World → Prop} {ops : Array Oper} {L : Act → Prop} {rest : List Oper} {o : Oper} {a : Act} (hg : o.guard = none) (ty : TypeId) (x : Operand) (ho : o.op = .load ty x) (ad : Addr) (hx : a.eval x = .pointer (some ad)) (cs : Array Value) (d : TypeDesc) (hc : ∀ V, C V → CellsAt V ad cs)
    (hu : P.underlying ty = some d) (hd : (match d with | .struct _ | .array _ _ => true | _ => false) = true) (hi : (P.info? ty).map (·.size) = some cs.size) (h : wpQuiet P ops C L rest (a.put o.dst (.agg cs))) : wpQuiet P ops C L (o :: rest) a := by
  have hw : Region.wanted o (yielded ops a.tmps) = true := by unfold Region.wanted; rw [hg]
  unfold wpQuiet
  rw [if_pos hw]
  refine ⟨.agg cs, fun V hV => ?_, h⟩
  unfold Oper.quietAt
  rw [run_load_at V ty x ho ad hx cs d (hc V hV) hu hd hi]
  exact ⟨rfl, rfl⟩
end Go.Proofs.YtcjfafhbohkhlaaGreat.M
