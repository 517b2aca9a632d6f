/- DERIVED. Words of the print that these walks need. -/
import Derived.Test.YtcjfafhbohkhlaaWTab
namespace Go.Proofs.YtcjfafhbohkhlaaW.PrintLast
/-- Number i is listed too. -/
def up (b : Nat → Bool) (i : Nat) : Nat → Bool := fun j => if j = i then true else b j
end Go.Proofs.YtcjfafhbohkhlaaW.PrintLast
