/- DERIVED. One operation of a region that draws its order, walked as a list of one. No program. -/
import Derived.Test.YtcjfafhbohkhlaaGreatMQPick
import Derived.Deep.CutRange
namespace Go.Proofs.YtcjfafhbohkhlaaGreat.M
open Go Go.RowKit Go.Sort
set_option linter.unusedVariables false
/-- Behind the one operation K; elsewhere Q. -/
def thenK (K : Act → World → Prop) (Q : Exit → Act → World → Prop) : Exit → Act → World → Prop
  | .normal, a, w => K a w
  | .exit i, a, w => Q (.exit i) a w
  | .goto l, a, w => Q (.goto l) a w
  | .ret, a, w => Q .ret a w
  | .panic c, a, w => Q (.panic c) a w
  | .outgrown, a, w => Q .outgrown a w
theorem upon_thenK {P : Program} {o : Oper} {a : Act} {K : Act → World → Prop} {Q : Exit → Act → World → Prop} {ops : Array Oper} {r : Result Next} (h : o.upon P a (wpList P ops (thenK K Q) []) (thenK K Q) r) : o.upon P a K Q r := by
  unfold Oper.upon at *
  split at h <;> first
    | exact h
    | (refine Calls.mono h ?_; intro e w' he; cases e <;> exact he)
theorem wpOp_of_list {P : Program} {ops : Array Oper} {Q : Exit → Act → World → Prop} {i : Nat} {o : Oper} {K : Act → World → Prop} {a : Act} {w : World} (ho : ops[i]? = some o) (h : wpList P ops (thenK K Q) [o] a w) : wpOp P ops Q i K a w := by
  unfold Go.wpOp
  simp only [ho]
  unfold wpList at h
  split at h
  · rename_i hw
    rw [if_pos hw]
    rcases h with h | ⟨h1, h2⟩
    · exact .inl (upon_thenK h)
    · exact .inr ⟨h1, h2⟩
  · rename_i hw
    rw [if_neg hw]
    exact h
/-- What reads K is walked. -/
theorem wpList_thenK {P : Program} {ops : Array Oper} {K : Act → World → Prop} {Q : Exit → Act → World → Prop} {a : Act} {w : World} (h : K a w) : wpList P ops (thenK K Q) [] a w := h
theorem thenK_intro {K : Act → World → Prop} {Q : Exit → Act → World → Prop} {a : Act} {w : World} (h : K a w) : thenK K Q .normal a w := h
end Go.Proofs.YtcjfafhbohkhlaaGreat.M
