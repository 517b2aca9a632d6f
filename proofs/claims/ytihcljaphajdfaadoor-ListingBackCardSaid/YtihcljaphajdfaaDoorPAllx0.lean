/- DERIVED. The contracts of the Go functions that one law reaches: each call returns what the plain function beside it says, under that theorem's own premises. Written by a program (hp.py) over the kit's printed words. -/
import Derived.Test.YtihcljaphajdfaaDoorProg
import Derived.Test.YtihcljaphajdfaaDoorMBits
import Derived.Test.YtihcljaphajdfaaDoorMWalk
import Derived.Test.YtihcljaphajdfaaDoorMTab
import Derived.Test.YtihcljaphajdfaaDoorMInst
import Derived.Test.YtihcljaphajdfaaDoorMDec
import Derived.Test.YtihcljaphajdfaaDoorMDec2
import Derived.Test.YtihcljaphajdfaaDoorMQTail
import Derived.Below
import Derived.Deep.Draws
import Derived.Deep.AppendLies
import Derived.Maps.AppendAt
import Derived.OwnWalk
import Derived.Laws.BytesArg
import Derived.Laws.MakeOwn
import Derived.Laws.OwnMore
import Derived.Deep.OwnRows
import Derived.Tactics
import Derived.Lib.ConvBytes
import Derived.Laws.Slices
import Derived.WalkKit
import Derived.KernelRfl
import Derived.RowKit3
import Derived.Deep.LoopGhost
import Derived.Deep.QuietTactic
import Derived.BigQuiet
import Derived.WideLaws
import Derived.Deep.DeepCutAuto
import Derived.Deep.CutBlock
import Derived.Deep.RegionHeld3
import Derived.Laws.Rows
import Derived.Lib.AppendStr
import Derived.ArgAppend
import Derived.Laws.IdiomCopy
import Derived.OrdersHeld
import Derived.Laws.BitsLemmas
import Derived.RowKit
import Derived.Laws.Bits64
import Derived.Handy
import Derived.Lib.Hide
import Derived.Deep.Light
import Derived.Laws.CopyOwn
import Derived.Test.YtihcljaphajdfaaDoorWWords
import Derived.Test.YtihcljaphajdfaaDoorWLast
import Derived.Test.YtihcljaphajdfaaDoorWApart
import Derived.Test.YtihcljaphajdfaaDoorWShare
import Derived.Test.YtihcljaphajdfaaDoorWN
import Derived.Test.YtihcljaphajdfaaDoorWEqStruct
import Derived.Test.YtihcljaphajdfaaDoorWRepsOne
import Derived.Test.YtihcljaphajdfaaDoorWMore
namespace Go.Proofs.YtihcljaphajdfaaDoor.PAll
open Go.RowKit Go.Proofs.YtihcljaphajdfaaDoorW.PrintWords Go.Proofs.YtihcljaphajdfaaDoorW.PrintLast Go.Proofs.YtihcljaphajdfaaDoorW.PrintMore Go.Proofs.YtihcljaphajdfaaDoor.M
attribute [local go_sem] max2_int min2_int max_two min_two max_three min_three max_four min_four   -- for this text's walks alone
set_option linter.unusedVariables false
set_option linter.unusedSimpArgs false



def errW : Option Int → Value
  | none => .nilIface
  | some c => .iface 105 (.int .i64 c)
theorem errW_none : errW none = .nilIface := rfl
theorem errW_some (c : Int) : errW (some c) = .iface 105 (.int .i64 c) := rfl

theorem info9 : (Tryd.prog.info? 9).map (fun i => (i.zero, i.size, i.bytes)) = some (some (.string ⟨#[]⟩), 1, 16) := by kernel_rfl
end Go.Proofs.YtihcljaphajdfaaDoor.PAll
