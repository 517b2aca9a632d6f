/- DERIVED. A run of composite literals in one region, taken at once; no program. -/
import Derived.Laws.Tables
import Derived.Tactics
import Derived.Deep.WholeRow
import Derived.Deep.MidRow
namespace Go.Proofs.YtcjfafhbohkhlaaGreat.M
open Go
set_option linter.unusedVariables false
/-- What a list of composite literals leaves in its frame. -/
def runBuilds (P : Program) : List Oper → Act → Option Act
  | [], a => some a
  | o :: r, a => match o.guard, o.op with
    | none, .build t parts => match P.built t (parts.map fun (i, x) => (i, a.eval x)).toList with
      | some cells => runBuilds P r (a.put o.dst (.agg cells))
      | none => none
    | _, _ => none
theorem wpList_builds {P : Program} {ops : Array Oper} {Q : Exit → Act → World → Prop} {w : World} (l2 : List Oper) : ∀ (l1 : List Oper) (a a' : Act), runBuilds P l1 a = some a' → wpList P ops Q l2 a' w → wpList P ops Q (l1 ++ l2) a w
  | [], a, a', h, h2 => by simp only [runBuilds, Option.some.injEq] at h; subst h; exact h2
  | o :: r, a, a', h, h2 => by
    unfold runBuilds at h
    split at h
    · rename_i t parts hg ho
      split at h
      · rename_i cells hc
        refine wpList_build hg t parts ho (by rw [hc]; rfl) ?_
        rw [hc]
        exact wpList_builds l2 r _ a' h h2
      · simp at h
    · simp at h
theorem wpList_builds_take {P : Program} {ops : Array Oper} {Q : Exit → Act → World → Prop} {w : World} (n : Nat) (L L2 : List Oper) (a a' : Act) (h : runBuilds P (L.take n) a = some a') (hL : L.drop n = L2) (h2 : wpList P ops Q L2 a' w) : wpList P ops Q L a w := by
  have := wpList_builds L2 (L.take n) a a' h h2
  rw [← hL, List.take_append_drop] at this
  exact this
end Go.Proofs.YtcjfafhbohkhlaaGreat.M
