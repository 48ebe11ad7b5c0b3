/- Words of the kit's print, cut down to what the texts of these claims name. -/
import Derived.Test.YtmafphfajgoojaaWN
namespace Go.Proofs.YtmafphfajgoojaaW.PrintWords
open Go.RowKit
namespace Kd
end Kd
end Go.Proofs.YtmafphfajgoojaaW.PrintWords
