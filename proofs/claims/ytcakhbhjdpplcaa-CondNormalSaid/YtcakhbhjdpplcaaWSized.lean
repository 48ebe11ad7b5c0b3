/- Words of the kit's print, cut down to what the texts of these claims name. -/
import Derived.SizedLaws
import Derived.ChangeSlices
namespace Go.Proofs.YtcakhbhjdpplcaaW.PrintWords
open Go.ChangeShapes Go.WideShapes
end Go.Proofs.YtcakhbhjdpplcaaW.PrintWords
