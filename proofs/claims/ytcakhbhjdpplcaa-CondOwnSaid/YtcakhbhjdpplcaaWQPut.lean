/- Words of the kit's print, cut down to what the texts of these claims name. -/
import Derived.Test.YtcakhbhjdpplcaaWWords
import Derived.Test.YtcakhbhjdpplcaaWLast
namespace Go.Proofs.YtcakhbhjdpplcaaW.PrintWords
open Go.RowKit
namespace Kd
end Kd
end Go.Proofs.YtcakhbhjdpplcaaW.PrintWords
