/- DERIVED. The contracts of the Go functions that one law reaches: each call returns what the plain function beside it says, under that theorem's own premises. Written by a program (hp.py) over the kit's printed words. -/
import Derived.Test.YtkdgkoedhfmonaaProg
import Derived.Test.YtkdgkoedhfmonaaMBits
import Derived.Test.YtkdgkoedhfmonaaMWalk
import Derived.Test.YtkdgkoedhfmonaaMRow
import Derived.Below
import Derived.Deep.Draws
import Derived.Deep.AppendLies
import Derived.Maps.AppendAt
import Derived.OwnWalk
import Derived.Laws.BytesArg
import Derived.Laws.MakeOwn
import Derived.Laws.OwnMore
import Derived.Deep.OwnRows
import Derived.Tactics
import Derived.Lib.ConvBytes
import Derived.Laws.Slices
import Derived.WalkKit
import Derived.KernelRfl
import Derived.RowKit3
import Derived.Deep.LoopGhost
import Derived.Deep.QuietTactic
import Derived.BigQuiet
import Derived.WideLaws
import Derived.Deep.DeepCutAuto
import Derived.Deep.CutBlock
import Derived.Deep.RegionHeld3
import Derived.Laws.Rows
import Derived.Lib.AppendStr
import Derived.ArgAppend
import Derived.Laws.IdiomCopy
import Derived.OrdersHeld
import Derived.Laws.BitsLemmas
import Derived.RowKit
import Derived.Laws.Bits64
import Derived.Handy
import Derived.Lib.Hide
import Derived.Deep.Light
import Derived.Laws.CopyOwn
import Derived.Test.YtkdgkoedhfmonaaWWords
import Derived.Test.YtkdgkoedhfmonaaWLast
import Derived.Test.YtkdgkoedhfmonaaWTab
import Derived.Test.YtkdgkoedhfmonaaWFour
import Derived.Test.YtkdgkoedhfmonaaWQPut
import Derived.Test.YtkdgkoedhfmonaaWApart
import Derived.Test.YtkdgkoedhfmonaaWArr
import Derived.Test.YtkdgkoedhfmonaaWZeros
import Derived.Test.YtkdgkoedhfmonaaWFoot
import Derived.Test.YtkdgkoedhfmonaaWKept
import Derived.Test.YtkdgkoedhfmonaaWShare
import Derived.Test.YtkdgkoedhfmonaaWN
import Derived.Test.YtkdgkoedhfmonaaWFootNe
import Derived.Test.YtkdgkoedhfmonaaWAt
import Derived.Test.YtkdgkoedhfmonaaWEqStruct
import Derived.Test.YtkdgkoedhfmonaaWRepsOne
import Derived.Test.YtkdgkoedhfmonaaWInv
import Derived.Test.YtkdgkoedhfmonaaWInvWords
import Derived.Test.YtkdgkoedhfmonaaWGuard
import Derived.Test.YtkdgkoedhfmonaaWNEv
import Derived.Test.YtkdgkoedhfmonaaWMore
namespace Go.Proofs.Ytkdgkoedhfmonaa.PAll
open Go.RowKit Go.Proofs.YtkdgkoedhfmonaaW.PrintWords Go.Proofs.YtkdgkoedhfmonaaW.PrintLast Go.Proofs.YtkdgkoedhfmonaaW.PrintMore Go.Proofs.Ytkdgkoedhfmonaa.M
attribute [local go_sem] max2_int min2_int max_two min_two max_three min_three max_four min_four   -- for this text's walks alone
set_option linter.unusedVariables false
set_option linter.unusedSimpArgs false



def errW : Option Int → Value
  | none => .nilIface
  | some c => .iface 0 (.int .i64 c)
theorem errW_none : errW none = .nilIface := rfl
theorem errW_some (c : Int) : errW (some c) = .iface 0 (.int .i64 c) := rfl

-- the values' own types

end Go.Proofs.Ytkdgkoedhfmonaa.PAll
