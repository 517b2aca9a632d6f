/- DERIVED. Words of the print that these walks need. -/
import Derived.Test.YtcjfafhbohkhlaaGreatWTab
namespace Go.Proofs.YtcjfafhbohkhlaaGreatW.PrintLast
/-- Number i is listed too. -/
def up (b : Nat → Bool) (i : Nat) : Nat → Bool := fun j => if j = i then true else b j
end Go.Proofs.YtcjfafhbohkhlaaGreatW.PrintLast
