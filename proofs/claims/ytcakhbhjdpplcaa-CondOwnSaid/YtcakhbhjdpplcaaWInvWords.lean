/- Words of the kit's print, cut down to what the texts of these claims name. -/
import Derived.Test.YtcakhbhjdpplcaaWInv
import Derived.Test.YtcakhbhjdpplcaaWFootNe
namespace Go.Proofs.YtcakhbhjdpplcaaW.PrintWords
open Go.RowKit
end Go.Proofs.YtcakhbhjdpplcaaW.PrintWords
namespace Go.Proofs.YtcakhbhjdpplcaaW.PrintLast
end Go.Proofs.YtcakhbhjdpplcaaW.PrintLast
