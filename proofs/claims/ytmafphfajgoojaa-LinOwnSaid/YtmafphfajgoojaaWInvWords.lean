/- Words of the kit's print, cut down to what the texts of these claims name. -/
import Derived.Test.YtmafphfajgoojaaWInv
import Derived.Test.YtmafphfajgoojaaWFootNe
namespace Go.Proofs.YtmafphfajgoojaaW.PrintWords
open Go.RowKit
end Go.Proofs.YtmafphfajgoojaaW.PrintWords
namespace Go.Proofs.YtmafphfajgoojaaW.PrintLast
end Go.Proofs.YtmafphfajgoojaaW.PrintLast
