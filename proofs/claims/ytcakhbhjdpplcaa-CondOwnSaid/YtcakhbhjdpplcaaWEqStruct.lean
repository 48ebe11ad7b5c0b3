/- Words of the kit's print, cut down to what the texts of these claims name. -/
import Derived.Test.YtcakhbhjdpplcaaWWords
import Derived.Laws.StructEq
namespace Go.Proofs.YtcakhbhjdpplcaaW.PrintWords
open Go.RowKit
end Go.Proofs.YtcakhbhjdpplcaaW.PrintWords
