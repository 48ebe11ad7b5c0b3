/- Words of the kit's print, cut down to what the texts of these claims name. -/
import Derived.Test.YtcakhbhjdpplcaaWN
namespace Go.Proofs.YtcakhbhjdpplcaaW.PrintWords
open Go.RowKit
namespace Kd
end Kd
end Go.Proofs.YtcakhbhjdpplcaaW.PrintWords
