-- trimmed by a program of this session (shake.py) from what the print wrote for this seat
import Derived.Test.YtgkliacflbenfaaWTab
namespace Go.Proofs.YtgkliacflbenfaaW.PrintLast
def up (b : Nat → Bool) (i : Nat) : Nat → Bool := fun j => if j = i then true else b j
end Go.Proofs.YtgkliacflbenfaaW.PrintLast
