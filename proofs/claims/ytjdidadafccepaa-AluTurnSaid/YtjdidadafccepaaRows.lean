/-
  No cell of these rows narrows 'for every input' (looked for: loops, veiled, ifaces, maps, wideKeys, modest, calm, conditions, laid).
  DERIVED. THE GIVEN ROWS OF THIS SEAT. 7 by the template 'for every input the law returns true; each argument reads behind the call as it read before'; 0 by the template 'total and deterministic' (their statements: YtjdidadafccepaaTotals.lean).
  GIVEN WITH THE SEED: the statements are not yours to turn. If you find one false, say at which input.
  Laid BY PROGRAM, IN A SANDBOX (cutbox-rows.mjs): the forced cells as the released guide's own fill.sh prints them over the translation 50bff5c7bb7c3b62… (all of the seat's roots in one cut). By AI agents, Wed Nov 11 2026. No macro, syntax, notation, axiom, sorry.
-/
import Derived.Test.YtjdidadafccepaaChecked
import GoSem.Claim
import GoSem.ClaimJoined
import GoSem.ClaimMapViews
import Derived.JoinedTies
import Derived.KernelRfl
namespace Go.Proofs.Ytjdidadafccepaa
/- THE CELL 'sum', in the pinned program and in every row, IS THE sha256 OF THE DUMP (.gsa) THAT YtjdidadafccepaaProg.lean LOADS. Nothing in Lean hashes anything: it is a label: what it is worth is what the hold of that sum in a sandbox is worth. -/
noncomputable def Try.pinned : Pinned := { name := "ytjdidadafccepaa", sum := "50bff5c7bb7c3b62c89a4c2ad265e25dae2b510e6860cbfe1b1200cf96a7b72e", checked := Try.checked }
namespace Rows
def none {H : Type} : Left H := { results := [], args := [] }

/-- 'postbaglaw04.AluValues': WHATEVER THE INPUT: true; the input reads as it did. -/
def aluValuesSpec : ChangeSpec := { name := "aluValues", fn := fun _ => fun
  | [d1, d2, d3, d4] => { results := [.lit (.bool true)], args := [d1, d2, d3, d4] }
  | _ => none }
def aluValuesRow : OpenClaim := { program := "ytjdidadafccepaa", sum := "50bff5c7bb7c3b62c89a4c2ad265e25dae2b510e6860cbfe1b1200cf96a7b72e", func := "postbag/postbaglaw04.AluValues", spec := "aluValues", unfollowed := true, recurses := true, apart := false }
def AluValuesSaid : Prop := aluValuesRow.holds Try.pinned (OpenSpec.ofChange aluValuesSpec)

/-- ITS FALSE NEIGHBOUR: 'it returns false'. Refute it at one input. -/
def aluValuesWrong : ChangeSpec := { name := "aluValues", fn := fun _ => fun
  | [d1, d2, d3, d4] => { results := [.lit (.bool false)], args := [d1, d2, d3, d4] }
  | _ => none }
def AluValuesWrongFalsely : Prop := aluValuesRow.holds Try.pinned (OpenSpec.ofChange aluValuesWrong)

/-- 'postbaglaw04.AluBack': WHATEVER THE INPUT: true; the input reads as it did. -/
def aluBackSpec : ChangeSpec := { name := "aluBack", fn := fun _ => fun
  | [d1, d2, d3] => { results := [.lit (.bool true)], args := [d1, d2, d3] }
  | _ => none }
def aluBackRow : OpenClaim := { program := "ytjdidadafccepaa", sum := "50bff5c7bb7c3b62c89a4c2ad265e25dae2b510e6860cbfe1b1200cf96a7b72e", func := "postbag/postbaglaw04.AluBack", spec := "aluBack", unfollowed := true, recurses := true, apart := false }
def AluBackSaid : Prop := aluBackRow.holds Try.pinned (OpenSpec.ofChange aluBackSpec)

/-- ITS FALSE NEIGHBOUR: 'it returns false'. Refute it at one input. -/
def aluBackWrong : ChangeSpec := { name := "aluBack", fn := fun _ => fun
  | [d1, d2, d3] => { results := [.lit (.bool false)], args := [d1, d2, d3] }
  | _ => none }
def AluBackWrongFalsely : Prop := aluBackRow.holds Try.pinned (OpenSpec.ofChange aluBackWrong)

/-- 'postbaglaw04.AluWide': WHATEVER THE INPUT: true; the input reads as it did. -/
def aluWideSpec : ChangeSpec := { name := "aluWide", fn := fun _ => fun
  | [d1, d2, d3, d4, d5, d6] => { results := [.lit (.bool true)], args := [d1, d2, d3, d4, d5, d6] }
  | _ => none }
def aluWideRow : OpenClaim := { program := "ytjdidadafccepaa", sum := "50bff5c7bb7c3b62c89a4c2ad265e25dae2b510e6860cbfe1b1200cf96a7b72e", func := "postbag/postbaglaw04.AluWide", spec := "aluWide", unfollowed := true, recurses := true, apart := false }
def AluWideSaid : Prop := aluWideRow.holds Try.pinned (OpenSpec.ofChange aluWideSpec)

/-- ITS FALSE NEIGHBOUR: 'it returns false'. Refute it at one input. -/
def aluWideWrong : ChangeSpec := { name := "aluWide", fn := fun _ => fun
  | [d1, d2, d3, d4, d5, d6] => { results := [.lit (.bool false)], args := [d1, d2, d3, d4, d5, d6] }
  | _ => none }
def AluWideWrongFalsely : Prop := aluWideRow.holds Try.pinned (OpenSpec.ofChange aluWideWrong)

/-- 'postbaglaw04.AluTurn': WHATEVER THE INPUT: true; the input reads as it did. -/
def aluTurnSpec : ChangeSpec := { name := "aluTurn", fn := fun _ => fun
  | [d1, d2, d3, d4] => { results := [.lit (.bool true)], args := [d1, d2, d3, d4] }
  | _ => none }
def aluTurnRow : OpenClaim := { program := "ytjdidadafccepaa", sum := "50bff5c7bb7c3b62c89a4c2ad265e25dae2b510e6860cbfe1b1200cf96a7b72e", func := "postbag/postbaglaw04.AluTurn", spec := "aluTurn", unfollowed := true, recurses := true, apart := false }
def AluTurnSaid : Prop := aluTurnRow.holds Try.pinned (OpenSpec.ofChange aluTurnSpec)

/-- ITS FALSE NEIGHBOUR: 'it returns false'. Refute it at one input. -/
def aluTurnWrong : ChangeSpec := { name := "aluTurn", fn := fun _ => fun
  | [d1, d2, d3, d4] => { results := [.lit (.bool false)], args := [d1, d2, d3, d4] }
  | _ => none }
def AluTurnWrongFalsely : Prop := aluTurnRow.holds Try.pinned (OpenSpec.ofChange aluTurnWrong)

/-- 'postbaglaw04.AluGoes': WHATEVER THE INPUT: true; the input reads as it did. -/
def aluGoesSpec : ChangeSpec := { name := "aluGoes", fn := fun _ => fun
  | [d1, d2, d3, d4] => { results := [.lit (.bool true)], args := [d1, d2, d3, d4] }
  | _ => none }
def aluGoesRow : OpenClaim := { program := "ytjdidadafccepaa", sum := "50bff5c7bb7c3b62c89a4c2ad265e25dae2b510e6860cbfe1b1200cf96a7b72e", func := "postbag/postbaglaw04.AluGoes", spec := "aluGoes", unfollowed := true, recurses := true, apart := false }
def AluGoesSaid : Prop := aluGoesRow.holds Try.pinned (OpenSpec.ofChange aluGoesSpec)

/-- ITS FALSE NEIGHBOUR: 'it returns false'. Refute it at one input. -/
def aluGoesWrong : ChangeSpec := { name := "aluGoes", fn := fun _ => fun
  | [d1, d2, d3, d4] => { results := [.lit (.bool false)], args := [d1, d2, d3, d4] }
  | _ => none }
def AluGoesWrongFalsely : Prop := aluGoesRow.holds Try.pinned (OpenSpec.ofChange aluGoesWrong)

/-- 'postbaglaw04.AluAtomic': WHATEVER THE INPUT: true; the input reads as it did. -/
def aluAtomicSpec : ChangeSpec := { name := "aluAtomic", fn := fun _ => fun
  | [d1, d2, d3, d4] => { results := [.lit (.bool true)], args := [d1, d2, d3, d4] }
  | _ => none }
def aluAtomicRow : OpenClaim := { program := "ytjdidadafccepaa", sum := "50bff5c7bb7c3b62c89a4c2ad265e25dae2b510e6860cbfe1b1200cf96a7b72e", func := "postbag/postbaglaw04.AluAtomic", spec := "aluAtomic", unfollowed := true, recurses := true, apart := false }
def AluAtomicSaid : Prop := aluAtomicRow.holds Try.pinned (OpenSpec.ofChange aluAtomicSpec)

/-- ITS FALSE NEIGHBOUR: 'it returns false'. Refute it at one input. -/
def aluAtomicWrong : ChangeSpec := { name := "aluAtomic", fn := fun _ => fun
  | [d1, d2, d3, d4] => { results := [.lit (.bool false)], args := [d1, d2, d3, d4] }
  | _ => none }
def AluAtomicWrongFalsely : Prop := aluAtomicRow.holds Try.pinned (OpenSpec.ofChange aluAtomicWrong)

/-- 'postbaglaw04.AluLoads': WHATEVER THE INPUT: true; the input reads as it did. -/
def aluLoadsSpec : ChangeSpec := { name := "aluLoads", fn := fun _ => fun
  | [d1, d2, d3, d4] => { results := [.lit (.bool true)], args := [d1, d2, d3, d4] }
  | _ => none }
def aluLoadsRow : OpenClaim := { program := "ytjdidadafccepaa", sum := "50bff5c7bb7c3b62c89a4c2ad265e25dae2b510e6860cbfe1b1200cf96a7b72e", func := "postbag/postbaglaw04.AluLoads", spec := "aluLoads", unfollowed := true, recurses := true, apart := false }
def AluLoadsSaid : Prop := aluLoadsRow.holds Try.pinned (OpenSpec.ofChange aluLoadsSpec)

/-- ITS FALSE NEIGHBOUR: 'it returns false'. Refute it at one input. -/
def aluLoadsWrong : ChangeSpec := { name := "aluLoads", fn := fun _ => fun
  | [d1, d2, d3, d4] => { results := [.lit (.bool false)], args := [d1, d2, d3, d4] }
  | _ => none }
def AluLoadsWrongFalsely : Prop := aluLoadsRow.holds Try.pinned (OpenSpec.ofChange aluLoadsWrong)

/- THE SECOND FORM. 'bulk': how many values and letters a reading holds, each counted each time it is reached (what is shared counts as often as it is met; a slice's spare places count too). A statement '..UptoSaid' is the law's where the arguments, and the package variables that the reading takes, are together of bulk at most 1048576: NARROWER than '..Said'. Prove '..Said' where nothing that the law and all that it calls make is longer than what came in: it says more and counts as full. Else prove '..UptoSaid'. A law counts once. -/
mutual
def uptoBulk {H : Type} : DataW H → Nat
  | .lit (.string bytes) => bytes.length + 1
  | .lit _ => 1
  | .nil => 1
  | .ptr d => uptoBulk d + 1
  | .slice elems spare => uptoBulkAll elems + uptoBulkAll spare + 1
  | .agg parts => uptoBulkAll parts + 1
  | .iface _ d => uptoBulk d + 1
  | .map entries => uptoBulkEntries entries + 1
  | .held _ => 1
def uptoBulkAll {H : Type} : List (DataW H) → Nat
  | [] => 0
  | d :: r => uptoBulk d + uptoBulkAll r
def uptoBulkEntries {H : Type} : List (Lit × DataW H) → Nat
  | [] => 0
  | x :: r => uptoBulkEntry x + uptoBulkEntries r
def uptoBulkEntry {H : Type} : Lit × DataW H → Nat
  | (.string bytes, d) => bytes.length + uptoBulk d + 1
  | (_, d) => uptoBulk d + 1
 end
def uptoSmall : (H : Type) → List (DataW H) → Bool := fun _ ds => decide (uptoBulkAll ds ≤ 1048576)
def OpenSpec.upto (s : _root_.Go.ChangeSpec) : _root_.Go.OpenSpec := { _root_.Go.OpenSpec.ofChange s with cond := some uptoSmall }

/-- 'postbaglaw04.AluValues', WHERE WHAT IT READS IS OF BULK AT MOST 1048576: true; the input reads as it did. -/
def aluValuesUptoRow : OpenClaim := { program := "ytjdidadafccepaa", sum := "50bff5c7bb7c3b62c89a4c2ad265e25dae2b510e6860cbfe1b1200cf96a7b72e", func := "postbag/postbaglaw04.AluValues", spec := "aluValues", unfollowed := true, recurses := true, apart := false, narrowed := true }
def AluValuesUptoSaid : Prop := aluValuesUptoRow.holds Try.pinned (OpenSpec.upto aluValuesSpec)

/-- 'postbaglaw04.AluBack', WHERE WHAT IT READS IS OF BULK AT MOST 1048576: true; the input reads as it did. -/
def aluBackUptoRow : OpenClaim := { program := "ytjdidadafccepaa", sum := "50bff5c7bb7c3b62c89a4c2ad265e25dae2b510e6860cbfe1b1200cf96a7b72e", func := "postbag/postbaglaw04.AluBack", spec := "aluBack", unfollowed := true, recurses := true, apart := false, narrowed := true }
def AluBackUptoSaid : Prop := aluBackUptoRow.holds Try.pinned (OpenSpec.upto aluBackSpec)

/-- 'postbaglaw04.AluWide', WHERE WHAT IT READS IS OF BULK AT MOST 1048576: true; the input reads as it did. -/
def aluWideUptoRow : OpenClaim := { program := "ytjdidadafccepaa", sum := "50bff5c7bb7c3b62c89a4c2ad265e25dae2b510e6860cbfe1b1200cf96a7b72e", func := "postbag/postbaglaw04.AluWide", spec := "aluWide", unfollowed := true, recurses := true, apart := false, narrowed := true }
def AluWideUptoSaid : Prop := aluWideUptoRow.holds Try.pinned (OpenSpec.upto aluWideSpec)

/-- 'postbaglaw04.AluTurn', WHERE WHAT IT READS IS OF BULK AT MOST 1048576: true; the input reads as it did. -/
def aluTurnUptoRow : OpenClaim := { program := "ytjdidadafccepaa", sum := "50bff5c7bb7c3b62c89a4c2ad265e25dae2b510e6860cbfe1b1200cf96a7b72e", func := "postbag/postbaglaw04.AluTurn", spec := "aluTurn", unfollowed := true, recurses := true, apart := false, narrowed := true }
def AluTurnUptoSaid : Prop := aluTurnUptoRow.holds Try.pinned (OpenSpec.upto aluTurnSpec)

/-- 'postbaglaw04.AluGoes', WHERE WHAT IT READS IS OF BULK AT MOST 1048576: true; the input reads as it did. -/
def aluGoesUptoRow : OpenClaim := { program := "ytjdidadafccepaa", sum := "50bff5c7bb7c3b62c89a4c2ad265e25dae2b510e6860cbfe1b1200cf96a7b72e", func := "postbag/postbaglaw04.AluGoes", spec := "aluGoes", unfollowed := true, recurses := true, apart := false, narrowed := true }
def AluGoesUptoSaid : Prop := aluGoesUptoRow.holds Try.pinned (OpenSpec.upto aluGoesSpec)

/-- 'postbaglaw04.AluAtomic', WHERE WHAT IT READS IS OF BULK AT MOST 1048576: true; the input reads as it did. -/
def aluAtomicUptoRow : OpenClaim := { program := "ytjdidadafccepaa", sum := "50bff5c7bb7c3b62c89a4c2ad265e25dae2b510e6860cbfe1b1200cf96a7b72e", func := "postbag/postbaglaw04.AluAtomic", spec := "aluAtomic", unfollowed := true, recurses := true, apart := false, narrowed := true }
def AluAtomicUptoSaid : Prop := aluAtomicUptoRow.holds Try.pinned (OpenSpec.upto aluAtomicSpec)

/-- 'postbaglaw04.AluLoads', WHERE WHAT IT READS IS OF BULK AT MOST 1048576: true; the input reads as it did. -/
def aluLoadsUptoRow : OpenClaim := { program := "ytjdidadafccepaa", sum := "50bff5c7bb7c3b62c89a4c2ad265e25dae2b510e6860cbfe1b1200cf96a7b72e", func := "postbag/postbaglaw04.AluLoads", spec := "aluLoads", unfollowed := true, recurses := true, apart := false, narrowed := true }
def AluLoadsUptoSaid : Prop := aluLoadsUptoRow.holds Try.pinned (OpenSpec.upto aluLoadsSpec)

end Rows
end Go.Proofs.Ytjdidadafccepaa
