/- Words of the kit's print, cut down to what the texts of these claims name. -/
import Derived.Test.YtcakhbhjdpplcaaWTab
namespace Go.Proofs.YtcakhbhjdpplcaaW.PrintLast
end Go.Proofs.YtcakhbhjdpplcaaW.PrintLast
