/- DERIVED. The contracts of the Go functions that one law reaches: each call returns what the plain function beside it says, under that theorem's own premises. Written by a program (hp.py) over the kit's printed words. -/
import Derived.Test.YtaimncgdpnjhiaaProg
import Derived.Test.YtaimncgdpnjhiaaMBits
import Derived.Test.YtaimncgdpnjhiaaMImage
import Derived.Test.YtaimncgdpnjhiaaMWalk
import Derived.Test.YtaimncgdpnjhiaaMRow
import Derived.Below
import Derived.Deep.Draws
import Derived.Deep.AppendLies
import Derived.Maps.AppendAt
import Derived.OwnWalk
import Derived.Laws.BytesArg
import Derived.Laws.MakeOwn
import Derived.Laws.OwnMore
import Derived.Deep.OwnRows
import Derived.Tactics
import Derived.Lib.ConvBytes
import Derived.Laws.Slices
import Derived.WalkKit
import Derived.KernelRfl
import Derived.RowKit3
import Derived.Deep.LoopGhost
import Derived.Deep.QuietTactic
import Derived.BigQuiet
import Derived.WideLaws
import Derived.Deep.DeepCutAuto
import Derived.Deep.CutBlock
import Derived.Deep.RegionHeld3
import Derived.Laws.Rows
import Derived.Lib.AppendStr
import Derived.ArgAppend
import Derived.Laws.IdiomCopy
import Derived.OrdersHeld
import Derived.Laws.BitsLemmas
import Derived.RowKit
import Derived.Laws.Bits64
import Derived.Handy
import Derived.Lib.Hide
import Derived.Deep.Light
import Derived.Test.YtaimncgdpnjhiaaWWords
import Derived.Test.YtaimncgdpnjhiaaWLast
import Derived.Test.YtaimncgdpnjhiaaWTab
import Derived.Test.YtaimncgdpnjhiaaWFour
import Derived.Test.YtaimncgdpnjhiaaWQPut
import Derived.Test.YtaimncgdpnjhiaaWApart
import Derived.Test.YtaimncgdpnjhiaaWArr
import Derived.Test.YtaimncgdpnjhiaaWZeros
import Derived.Test.YtaimncgdpnjhiaaWFoot
import Derived.Test.YtaimncgdpnjhiaaWKept
import Derived.Test.YtaimncgdpnjhiaaWShare
import Derived.Test.YtaimncgdpnjhiaaWN
import Derived.Test.YtaimncgdpnjhiaaWFootNe
import Derived.Test.YtaimncgdpnjhiaaWAt
import Derived.Test.YtaimncgdpnjhiaaWEqStruct
import Derived.Test.YtaimncgdpnjhiaaWRepsOne
import Derived.Test.YtaimncgdpnjhiaaWInv
import Derived.Test.YtaimncgdpnjhiaaWInvWords
import Derived.Test.YtaimncgdpnjhiaaWGuard
import Derived.Test.YtaimncgdpnjhiaaWNEv
import Derived.Test.YtaimncgdpnjhiaaWMore
namespace Go.Proofs.Ytaimncgdpnjhiaa.PAll
open Go.RowKit Go.Proofs.YtaimncgdpnjhiaaW.PrintWords Go.Proofs.YtaimncgdpnjhiaaW.PrintLast Go.Proofs.YtaimncgdpnjhiaaW.PrintMore Go.Proofs.Ytaimncgdpnjhiaa.M
attribute [local go_sem] max2_int min2_int max_two min_two max_three min_three max_four min_four   -- for this text's walks alone
set_option linter.unusedVariables false
set_option linter.unusedSimpArgs false



def errW : Option Int → Value
  | none => .nilIface
  | some c => .iface 0 (.int .i64 c)
theorem errW_none : errW none = .nilIface := rfl
theorem errW_some (c : Int) : errW (some c) = .iface 0 (.int .i64 c) := rfl

-- the values' own types

end Go.Proofs.Ytaimncgdpnjhiaa.PAll
