/- Words of the kit's print, cut down to what the texts of these claims name. -/
import Derived.Test.YtmafphfajgoojaaWWords
import Derived.Laws.StructEq
namespace Go.Proofs.YtmafphfajgoojaaW.PrintWords
open Go.RowKit
end Go.Proofs.YtmafphfajgoojaaW.PrintWords
