/-
  No cell of these rows narrows 'for every input' (looked for: loops, veiled, ifaces, maps, wideKeys, modest, calm, conditions, laid).
  DERIVED. THE GIVEN ROWS OF THIS SEAT. 4 by the template 'for every input the law returns true; each argument reads behind the call as it read before'; 0 by the template 'total and deterministic' (their statements: YtcjfafhbohkhlaaTotals.lean).
  GIVEN WITH THE SEED: the statements are not yours to turn. If you find one false, say at which input.
  Laid BY PROGRAM, IN A SANDBOX (cutbox-rows.mjs): the forced cells as the released guide's own fill.sh prints them over the translation 51a3574c00c14e9a… (all of the seat's roots in one cut). By AI agents, Wed Nov 11 2026. No macro, syntax, notation, axiom, sorry.
-/
import Derived.Test.YtcjfafhbohkhlaaChecked
import GoSem.Claim
import GoSem.ClaimJoined
import GoSem.ClaimMapViews
import Derived.JoinedTies
import Derived.KernelRfl
namespace Go.Proofs.Ytcjfafhbohkhlaa
/- THE CELL 'sum', in the pinned program and in every row, IS THE sha256 OF THE DUMP (.gsa) THAT YtcjfafhbohkhlaaProg.lean LOADS. Nothing in Lean hashes anything: it is a label: what it is worth is what the hold of that sum in a sandbox is worth. -/
noncomputable def Try.pinned : Pinned := { name := "ytcjfafhbohkhlaa", sum := "51a3574c00c14e9a1126b2699dfad3ac548245ab301091d4d6a849371e55e71a", checked := Try.checked }
namespace Rows
def none {H : Type} : Left H := { results := [], args := [] }

/-- 'postbaglaw06.HartFour': WHATEVER THE INPUT: true; the input reads as it did. -/
def hartFourSpec : ChangeSpec := { name := "hartFour", fn := fun _ => fun
  | [d1, d2, d3] => { results := [.lit (.bool true)], args := [d1, d2, d3] }
  | _ => none }
def hartFourRow : OpenClaim := { program := "ytcjfafhbohkhlaa", sum := "51a3574c00c14e9a1126b2699dfad3ac548245ab301091d4d6a849371e55e71a", func := "postbag/postbaglaw06.HartFour", spec := "hartFour", unfollowed := true, recurses := true, apart := false }
def HartFourSaid : Prop := hartFourRow.holds Try.pinned (OpenSpec.ofChange hartFourSpec)

/-- ITS FALSE NEIGHBOUR: 'it returns false'. Refute it at one input. -/
def hartFourWrong : ChangeSpec := { name := "hartFour", fn := fun _ => fun
  | [d1, d2, d3] => { results := [.lit (.bool false)], args := [d1, d2, d3] }
  | _ => none }
def HartFourWrongFalsely : Prop := hartFourRow.holds Try.pinned (OpenSpec.ofChange hartFourWrong)

/-- 'postbaglaw06.HartHolds': WHATEVER THE INPUT: true; the input reads as it did. -/
def hartHoldsSpec : ChangeSpec := { name := "hartHolds", fn := fun _ => fun
  | [d1, d2, d3, d4, d5, d6] => { results := [.lit (.bool true)], args := [d1, d2, d3, d4, d5, d6] }
  | _ => none }
def hartHoldsRow : OpenClaim := { program := "ytcjfafhbohkhlaa", sum := "51a3574c00c14e9a1126b2699dfad3ac548245ab301091d4d6a849371e55e71a", func := "postbag/postbaglaw06.HartHolds", spec := "hartHolds", unfollowed := true, recurses := true, apart := false }
def HartHoldsSaid : Prop := hartHoldsRow.holds Try.pinned (OpenSpec.ofChange hartHoldsSpec)

/-- ITS FALSE NEIGHBOUR: 'it returns false'. Refute it at one input. -/
def hartHoldsWrong : ChangeSpec := { name := "hartHolds", fn := fun _ => fun
  | [d1, d2, d3, d4, d5, d6] => { results := [.lit (.bool false)], args := [d1, d2, d3, d4, d5, d6] }
  | _ => none }
def HartHoldsWrongFalsely : Prop := hartHoldsRow.holds Try.pinned (OpenSpec.ofChange hartHoldsWrong)

/-- 'postbaglaw06.HartKeeps': WHATEVER THE INPUT: true; the input reads as it did. -/
def hartKeepsSpec : ChangeSpec := { name := "hartKeeps", fn := fun _ => fun
  | [d1, d2, d3] => { results := [.lit (.bool true)], args := [d1, d2, d3] }
  | _ => none }
def hartKeepsRow : OpenClaim := { program := "ytcjfafhbohkhlaa", sum := "51a3574c00c14e9a1126b2699dfad3ac548245ab301091d4d6a849371e55e71a", func := "postbag/postbaglaw06.HartKeeps", spec := "hartKeeps", unfollowed := true, recurses := true, apart := false }
def HartKeepsSaid : Prop := hartKeepsRow.holds Try.pinned (OpenSpec.ofChange hartKeepsSpec)

/-- ITS FALSE NEIGHBOUR: 'it returns false'. Refute it at one input. -/
def hartKeepsWrong : ChangeSpec := { name := "hartKeeps", fn := fun _ => fun
  | [d1, d2, d3] => { results := [.lit (.bool false)], args := [d1, d2, d3] }
  | _ => none }
def HartKeepsWrongFalsely : Prop := hartKeepsRow.holds Try.pinned (OpenSpec.ofChange hartKeepsWrong)

/-- 'postbaglaw06.HartParts': WHATEVER THE INPUT: true; the input reads as it did. -/
def hartPartsSpec : ChangeSpec := { name := "hartParts", fn := fun _ => fun
  | [d1, d2, d3, d4, d5] => { results := [.lit (.bool true)], args := [d1, d2, d3, d4, d5] }
  | _ => none }
def hartPartsRow : OpenClaim := { program := "ytcjfafhbohkhlaa", sum := "51a3574c00c14e9a1126b2699dfad3ac548245ab301091d4d6a849371e55e71a", func := "postbag/postbaglaw06.HartParts", spec := "hartParts", unfollowed := true, recurses := true, apart := false }
def HartPartsSaid : Prop := hartPartsRow.holds Try.pinned (OpenSpec.ofChange hartPartsSpec)

/-- ITS FALSE NEIGHBOUR: 'it returns false'. Refute it at one input. -/
def hartPartsWrong : ChangeSpec := { name := "hartParts", fn := fun _ => fun
  | [d1, d2, d3, d4, d5] => { results := [.lit (.bool false)], args := [d1, d2, d3, d4, d5] }
  | _ => none }
def HartPartsWrongFalsely : Prop := hartPartsRow.holds Try.pinned (OpenSpec.ofChange hartPartsWrong)

/- THE SECOND FORM. 'bulk': how many values and letters a reading holds, each counted each time it is reached (what is shared counts as often as it is met; a slice's spare places count too). A statement '..UptoSaid' is the law's where the arguments, and the package variables that the reading takes, are together of bulk at most 1048576: NARROWER than '..Said'. Prove '..Said' where nothing that the law and all that it calls make is longer than what came in: it says more and counts as full. Else prove '..UptoSaid'. A law counts once. -/
mutual
def uptoBulk {H : Type} : DataW H → Nat
  | .lit (.string bytes) => bytes.length + 1
  | .lit _ => 1
  | .nil => 1
  | .ptr d => uptoBulk d + 1
  | .slice elems spare => uptoBulkAll elems + uptoBulkAll spare + 1
  | .agg parts => uptoBulkAll parts + 1
  | .iface _ d => uptoBulk d + 1
  | .map entries => uptoBulkEntries entries + 1
  | .held _ => 1
def uptoBulkAll {H : Type} : List (DataW H) → Nat
  | [] => 0
  | d :: r => uptoBulk d + uptoBulkAll r
def uptoBulkEntries {H : Type} : List (Lit × DataW H) → Nat
  | [] => 0
  | x :: r => uptoBulkEntry x + uptoBulkEntries r
def uptoBulkEntry {H : Type} : Lit × DataW H → Nat
  | (.string bytes, d) => bytes.length + uptoBulk d + 1
  | (_, d) => uptoBulk d + 1
 end
def uptoSmall : (H : Type) → List (DataW H) → Bool := fun _ ds => decide (uptoBulkAll ds ≤ 1048576)
def OpenSpec.upto (s : _root_.Go.ChangeSpec) : _root_.Go.OpenSpec := { _root_.Go.OpenSpec.ofChange s with cond := some uptoSmall }

/-- 'postbaglaw06.HartFour', WHERE WHAT IT READS IS OF BULK AT MOST 1048576: true; the input reads as it did. -/
def hartFourUptoRow : OpenClaim := { program := "ytcjfafhbohkhlaa", sum := "51a3574c00c14e9a1126b2699dfad3ac548245ab301091d4d6a849371e55e71a", func := "postbag/postbaglaw06.HartFour", spec := "hartFour", unfollowed := true, recurses := true, apart := false, narrowed := true }
def HartFourUptoSaid : Prop := hartFourUptoRow.holds Try.pinned (OpenSpec.upto hartFourSpec)

/-- 'postbaglaw06.HartHolds', WHERE WHAT IT READS IS OF BULK AT MOST 1048576: true; the input reads as it did. -/
def hartHoldsUptoRow : OpenClaim := { program := "ytcjfafhbohkhlaa", sum := "51a3574c00c14e9a1126b2699dfad3ac548245ab301091d4d6a849371e55e71a", func := "postbag/postbaglaw06.HartHolds", spec := "hartHolds", unfollowed := true, recurses := true, apart := false, narrowed := true }
def HartHoldsUptoSaid : Prop := hartHoldsUptoRow.holds Try.pinned (OpenSpec.upto hartHoldsSpec)

/-- 'postbaglaw06.HartKeeps', WHERE WHAT IT READS IS OF BULK AT MOST 1048576: true; the input reads as it did. -/
def hartKeepsUptoRow : OpenClaim := { program := "ytcjfafhbohkhlaa", sum := "51a3574c00c14e9a1126b2699dfad3ac548245ab301091d4d6a849371e55e71a", func := "postbag/postbaglaw06.HartKeeps", spec := "hartKeeps", unfollowed := true, recurses := true, apart := false, narrowed := true }
def HartKeepsUptoSaid : Prop := hartKeepsUptoRow.holds Try.pinned (OpenSpec.upto hartKeepsSpec)

/-- 'postbaglaw06.HartParts', WHERE WHAT IT READS IS OF BULK AT MOST 1048576: true; the input reads as it did. -/
def hartPartsUptoRow : OpenClaim := { program := "ytcjfafhbohkhlaa", sum := "51a3574c00c14e9a1126b2699dfad3ac548245ab301091d4d6a849371e55e71a", func := "postbag/postbaglaw06.HartParts", spec := "hartParts", unfollowed := true, recurses := true, apart := false, narrowed := true }
def HartPartsUptoSaid : Prop := hartPartsUptoRow.holds Try.pinned (OpenSpec.upto hartPartsSpec)

end Rows
end Go.Proofs.Ytcjfafhbohkhlaa
