/- DERIVED. The contracts of the Go functions that one law reaches: each call returns what the plain function beside it says, under that theorem's own premises. Written by a program (hp.py) over the kit's printed words. -/
import Derived.Test.YtihcljaphajdfaaGreatDoorProg
import Derived.Test.YtihcljaphajdfaaGreatDoorMBits
import Derived.Test.YtihcljaphajdfaaGreatDoorMWalk
import Derived.Test.YtihcljaphajdfaaGreatDoorMTab
import Derived.Test.YtihcljaphajdfaaGreatDoorMInst
import Derived.Test.YtihcljaphajdfaaGreatDoorMDec
import Derived.Test.YtihcljaphajdfaaGreatDoorMDec2
import Derived.Test.YtihcljaphajdfaaGreatDoorMQTail
import Derived.Below
import Derived.Deep.Draws
import Derived.Deep.AppendLies
import Derived.Maps.AppendAt
import Derived.OwnWalk
import Derived.Laws.BytesArg
import Derived.Laws.MakeOwn
import Derived.Laws.OwnMore
import Derived.Deep.OwnRows
import Derived.Tactics
import Derived.Lib.ConvBytes
import Derived.Laws.Slices
import Derived.WalkKit
import Derived.KernelRfl
import Derived.RowKit3
import Derived.Deep.LoopGhost
import Derived.Deep.QuietTactic
import Derived.BigQuiet
import Derived.WideLaws
import Derived.Deep.DeepCutAuto
import Derived.Deep.CutBlock
import Derived.Deep.RegionHeld3
import Derived.Laws.Rows
import Derived.Lib.AppendStr
import Derived.ArgAppend
import Derived.Laws.IdiomCopy
import Derived.OrdersHeld
import Derived.Laws.BitsLemmas
import Derived.RowKit
import Derived.Laws.Bits64
import Derived.Handy
import Derived.Lib.Hide
import Derived.Deep.Light
import Derived.Laws.CopyOwn
import Derived.Test.YtihcljaphajdfaaGreatDoorWWords
import Derived.Test.YtihcljaphajdfaaGreatDoorWLast
import Derived.Test.YtihcljaphajdfaaGreatDoorWApart
import Derived.Test.YtihcljaphajdfaaGreatDoorWKept
import Derived.Test.YtihcljaphajdfaaGreatDoorWShare
import Derived.Test.YtihcljaphajdfaaGreatDoorWN
import Derived.Test.YtihcljaphajdfaaGreatDoorWEqStruct
import Derived.Test.YtihcljaphajdfaaGreatDoorWRepsOne
import Derived.Test.YtihcljaphajdfaaGreatDoorWMore
namespace Go.Proofs.YtihcljaphajdfaaGreatDoor.PAll
open Go.RowKit Go.Proofs.YtihcljaphajdfaaGreatDoorW.PrintWords Go.Proofs.YtihcljaphajdfaaGreatDoorW.PrintLast Go.Proofs.YtihcljaphajdfaaGreatDoorW.PrintMore Go.Proofs.YtihcljaphajdfaaGreatDoor.M
attribute [local go_sem] max2_int min2_int max_two min_two max_three min_three max_four min_four   -- for this text's walks alone
set_option linter.unusedVariables false
set_option linter.unusedSimpArgs false



def errW : Option Int → Value
  | none => .nilIface
  | some c => .iface 98 (.int .i64 c)
theorem errW_none : errW none = .nilIface := rfl
theorem errW_some (c : Int) : errW (some c) = .iface 98 (.int .i64 c) := rfl

theorem info9 : (Tryz.prog.info? 9).map (fun i => (i.zero, i.size, i.bytes)) = some (some (.string ⟨#[]⟩), 1, 16) := by kernel_rfl
end Go.Proofs.YtihcljaphajdfaaGreatDoor.PAll
