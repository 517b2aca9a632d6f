/-
  No cell of these rows narrows 'for every input' (looked for: loops, veiled, ifaces, maps, wideKeys, modest, calm, conditions, laid).
  DERIVED. THE GIVEN ROWS OF THIS SEAT. 2 by the template 'for every input the law returns true; each argument reads behind the call as it read before'; 0 by the template 'total and deterministic' (their statements: YtcjfafhbohkhlaaGreatTotals.lean).
  GIVEN WITH THE SEED: the statements are not yours to turn. If you find one false, say at which input.
  Laid BY PROGRAM, IN A SANDBOX (cutbox-rows.mjs): the forced cells as the released guide's own fill.sh prints them over the translation 3bea5d79d6ef3a8b… (all of the seat's roots in one cut). By AI agents, Wed Nov 11 2026. No macro, syntax, notation, axiom, sorry.
-/
import Derived.Test.YtcjfafhbohkhlaaGreatChecked
import GoSem.Claim
import GoSem.ClaimJoined
import GoSem.ClaimMapViews
import Derived.JoinedTies
import Derived.KernelRfl
namespace Go.Proofs.YtcjfafhbohkhlaaGreat
/- THE CELL 'sum', in the pinned program and in every row, IS THE sha256 OF THE DUMP (.gsa) THAT YtcjfafhbohkhlaaGreatProg.lean LOADS. Nothing in Lean hashes anything: it is a label: what it is worth is what the hold of that sum in a sandbox is worth. -/
noncomputable def Tryz.pinned : Pinned := { name := "ytcjfafhbohkhlaagreat", sum := "3bea5d79d6ef3a8bd031997467c20e5b695d2a7e905306486ef827f986b304d8", checked := Tryz.checked }
namespace Rows
def none {H : Type} : Left H := { results := [], args := [] }

/-- 'postbaglaw06.HartRuns': WHATEVER THE INPUT: true; the input reads as it did. -/
def hartRunsSpec : ChangeSpec := { name := "hartRuns", fn := fun _ => fun
  | [d1, d2, d3, d4] => { results := [.lit (.bool true)], args := [d1, d2, d3, d4] }
  | _ => none }
def hartRunsRow : OpenClaim := { program := "ytcjfafhbohkhlaagreat", sum := "3bea5d79d6ef3a8bd031997467c20e5b695d2a7e905306486ef827f986b304d8", func := "postbag/postbaglaw06.HartRuns", spec := "hartRuns", unfollowed := true, recurses := true, apart := false }
def HartRunsSaid : Prop := hartRunsRow.holds Tryz.pinned (OpenSpec.ofChange hartRunsSpec)

/-- ITS FALSE NEIGHBOUR: 'it returns false'. Refute it at one input. -/
def hartRunsWrong : ChangeSpec := { name := "hartRuns", fn := fun _ => fun
  | [d1, d2, d3, d4] => { results := [.lit (.bool false)], args := [d1, d2, d3, d4] }
  | _ => none }
def HartRunsWrongFalsely : Prop := hartRunsRow.holds Tryz.pinned (OpenSpec.ofChange hartRunsWrong)

/-- 'postbaglaw06.HartSteps': WHATEVER THE INPUT: true; the input reads as it did. -/
def hartStepsSpec : ChangeSpec := { name := "hartSteps", fn := fun _ => fun
  | [d1, d2, d3, d4] => { results := [.lit (.bool true)], args := [d1, d2, d3, d4] }
  | _ => none }
def hartStepsRow : OpenClaim := { program := "ytcjfafhbohkhlaagreat", sum := "3bea5d79d6ef3a8bd031997467c20e5b695d2a7e905306486ef827f986b304d8", func := "postbag/postbaglaw06.HartSteps", spec := "hartSteps", unfollowed := true, recurses := true, apart := false }
def HartStepsSaid : Prop := hartStepsRow.holds Tryz.pinned (OpenSpec.ofChange hartStepsSpec)

/-- ITS FALSE NEIGHBOUR: 'it returns false'. Refute it at one input. -/
def hartStepsWrong : ChangeSpec := { name := "hartSteps", fn := fun _ => fun
  | [d1, d2, d3, d4] => { results := [.lit (.bool false)], args := [d1, d2, d3, d4] }
  | _ => none }
def HartStepsWrongFalsely : Prop := hartStepsRow.holds Tryz.pinned (OpenSpec.ofChange hartStepsWrong)

/- THE SECOND FORM. 'bulk': how many values and letters a reading holds, each counted each time it is reached (what is shared counts as often as it is met; a slice's spare places count too). A statement '..UptoSaid' is the law's where the arguments, and the package variables that the reading takes, are together of bulk at most 1048576: NARROWER than '..Said'. Prove '..Said' where nothing that the law and all that it calls make is longer than what came in: it says more and counts as full. Else prove '..UptoSaid'. A law counts once. -/
mutual
def uptoBulk {H : Type} : DataW H → Nat
  | .lit (.string bytes) => bytes.length + 1
  | .lit _ => 1
  | .nil => 1
  | .ptr d => uptoBulk d + 1
  | .slice elems spare => uptoBulkAll elems + uptoBulkAll spare + 1
  | .agg parts => uptoBulkAll parts + 1
  | .iface _ d => uptoBulk d + 1
  | .map entries => uptoBulkEntries entries + 1
  | .held _ => 1
def uptoBulkAll {H : Type} : List (DataW H) → Nat
  | [] => 0
  | d :: r => uptoBulk d + uptoBulkAll r
def uptoBulkEntries {H : Type} : List (Lit × DataW H) → Nat
  | [] => 0
  | x :: r => uptoBulkEntry x + uptoBulkEntries r
def uptoBulkEntry {H : Type} : Lit × DataW H → Nat
  | (.string bytes, d) => bytes.length + uptoBulk d + 1
  | (_, d) => uptoBulk d + 1
 end
def uptoSmall : (H : Type) → List (DataW H) → Bool := fun _ ds => decide (uptoBulkAll ds ≤ 1048576)
def OpenSpec.upto (s : _root_.Go.ChangeSpec) : _root_.Go.OpenSpec := { _root_.Go.OpenSpec.ofChange s with cond := some uptoSmall }

/-- 'postbaglaw06.HartRuns', WHERE WHAT IT READS IS OF BULK AT MOST 1048576: true; the input reads as it did. -/
def hartRunsUptoRow : OpenClaim := { program := "ytcjfafhbohkhlaagreat", sum := "3bea5d79d6ef3a8bd031997467c20e5b695d2a7e905306486ef827f986b304d8", func := "postbag/postbaglaw06.HartRuns", spec := "hartRuns", unfollowed := true, recurses := true, apart := false, narrowed := true }
def HartRunsUptoSaid : Prop := hartRunsUptoRow.holds Tryz.pinned (OpenSpec.upto hartRunsSpec)

/-- 'postbaglaw06.HartSteps', WHERE WHAT IT READS IS OF BULK AT MOST 1048576: true; the input reads as it did. -/
def hartStepsUptoRow : OpenClaim := { program := "ytcjfafhbohkhlaagreat", sum := "3bea5d79d6ef3a8bd031997467c20e5b695d2a7e905306486ef827f986b304d8", func := "postbag/postbaglaw06.HartSteps", spec := "hartSteps", unfollowed := true, recurses := true, apart := false, narrowed := true }
def HartStepsUptoSaid : Prop := hartStepsUptoRow.holds Tryz.pinned (OpenSpec.upto hartStepsSpec)

end Rows
end Go.Proofs.YtcjfafhbohkhlaaGreat
