/- DERIVED. The contracts of the Go functions that one law reaches: each call returns what the plain function beside it says, under that theorem's own premises. Written by a program (hp.py) over the kit's printed words. -/
import Derived.Test.YtjdidadafccepaaProg
import Derived.Test.YtjdidadafccepaaMBits
import Derived.Test.YtjdidadafccepaaMWalk
import Derived.Test.YtjdidadafccepaaMTab
import Derived.Test.YtjdidadafccepaaMInst
import Derived.Test.YtjdidadafccepaaMDec
import Derived.Test.YtjdidadafccepaaMDec2
import Derived.Test.YtjdidadafccepaaMQTail
import Derived.Below
import Derived.Deep.Draws
import Derived.Deep.AppendLies
import Derived.Maps.AppendAt
import Derived.OwnWalk
import Derived.Laws.BytesArg
import Derived.Laws.MakeOwn
import Derived.Laws.OwnMore
import Derived.Deep.OwnRows
import Derived.Tactics
import Derived.Lib.ConvBytes
import Derived.Laws.Slices
import Derived.WalkKit
import Derived.KernelRfl
import Derived.RowKit3
import Derived.Deep.LoopGhost
import Derived.Deep.QuietTactic
import Derived.BigQuiet
import Derived.WideLaws
import Derived.Deep.DeepCutAuto
import Derived.Deep.CutBlock
import Derived.Deep.RegionHeld3
import Derived.Laws.Rows
import Derived.Lib.AppendStr
import Derived.ArgAppend
import Derived.Laws.IdiomCopy
import Derived.OrdersHeld
import Derived.Laws.BitsLemmas
import Derived.RowKit
import Derived.Laws.Bits64
import Derived.Handy
import Derived.Lib.Hide
import Derived.Deep.Light
import Derived.Laws.CopyOwn
import Derived.Test.YtjdidadafccepaaWWords
import Derived.Test.YtjdidadafccepaaWLast
import Derived.Test.YtjdidadafccepaaWTab
import Derived.Test.YtjdidadafccepaaWFour
import Derived.Test.YtjdidadafccepaaWQPut
import Derived.Test.YtjdidadafccepaaWApart
import Derived.Test.YtjdidadafccepaaWArr
import Derived.Test.YtjdidadafccepaaWZeros
import Derived.Test.YtjdidadafccepaaWFoot
import Derived.Test.YtjdidadafccepaaWKept
import Derived.Test.YtjdidadafccepaaWShare
import Derived.Test.YtjdidadafccepaaWN
import Derived.Test.YtjdidadafccepaaWFootNe
import Derived.Test.YtjdidadafccepaaWAt
import Derived.Test.YtjdidadafccepaaWEqStruct
import Derived.Test.YtjdidadafccepaaWRepsOne
import Derived.Test.YtjdidadafccepaaWInv
import Derived.Test.YtjdidadafccepaaWInvWords
import Derived.Test.YtjdidadafccepaaWGuard
import Derived.Test.YtjdidadafccepaaWNEv
import Derived.Test.YtjdidadafccepaaWMore
namespace Go.Proofs.Ytjdidadafccepaa.PAluTurn
open Go.RowKit Go.Proofs.YtjdidadafccepaaW.PrintWords Go.Proofs.YtjdidadafccepaaW.PrintLast Go.Proofs.YtjdidadafccepaaW.PrintMore Go.Proofs.Ytjdidadafccepaa.M
attribute [local go_sem] max2_int min2_int max_two min_two max_three min_three max_four min_four   -- for this text's walks alone
set_option linter.unusedVariables false
set_option linter.unusedSimpArgs false



def errW : Option Int → Value
  | none => .nilIface
  | some c => .iface 0 (.int .i64 c)
theorem errW_none : errW none = .nilIface := rfl
theorem errW_some (c : Int) : errW (some c) = .iface 0 (.int .i64 c) := rfl

-- the values' own types

end Go.Proofs.Ytjdidadafccepaa.PAluTurn
