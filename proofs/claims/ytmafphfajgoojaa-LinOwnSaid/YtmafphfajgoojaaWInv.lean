/- Words of the kit's print, cut down to what the texts of these claims name. -/
import Derived.Test.YtmafphfajgoojaaWTab
namespace Go.Proofs.YtmafphfajgoojaaW.PrintLast
end Go.Proofs.YtmafphfajgoojaaW.PrintLast
