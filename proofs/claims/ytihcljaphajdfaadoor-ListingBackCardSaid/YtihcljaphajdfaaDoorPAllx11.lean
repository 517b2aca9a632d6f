/- DERIVED. The contracts of the Go functions that one law reaches: each call returns what the plain function beside it says, under that theorem's own premises. Written by a program (hp.py) over the kit's printed words. -/
import Derived.Test.YtihcljaphajdfaaDoorPAllx0
import Derived.Test.YtihcljaphajdfaaDoorPAllx1
namespace Go.Proofs.YtihcljaphajdfaaDoor.PAll
open Go.RowKit Go.Proofs.YtihcljaphajdfaaDoorW.PrintWords Go.Proofs.YtihcljaphajdfaaDoorW.PrintLast Go.Proofs.YtihcljaphajdfaaDoorW.PrintMore Go.Proofs.YtihcljaphajdfaaDoor.M
attribute [local go_sem] max2_int min2_int max_two min_two max_three min_three max_four min_four   -- for this text's walks alone
set_option linter.unusedVariables false
set_option linter.unusedSimpArgs false

attribute [local go_sem high] eqA23
end Go.Proofs.YtihcljaphajdfaaDoor.PAll
