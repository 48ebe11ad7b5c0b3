/- Words of the kit's print, cut down to what the texts of these claims name. -/
import Derived.Test.YtcakhbhjdpplcaaWTab
namespace Go.Proofs.YtcakhbhjdpplcaaW.PrintLast
def up (b : Nat → Bool) (i : Nat) : Nat → Bool := fun j => if j = i then true else b j
end Go.Proofs.YtcakhbhjdpplcaaW.PrintLast
