/- Contracts of functions of the given program (part Aa): what each call returns, and what becomes of the memory. No condition but those that stand in each. -/
import Derived.Test.YtcakhbhjdpplcaaAa0
import Derived.Test.YtcakhbhjdpplcaaAa1
import Derived.Test.YtcakhbhjdpplcaaAa2
import Derived.Test.YtcakhbhjdpplcaaAa3
import Derived.Test.YtcakhbhjdpplcaaAa4
import Derived.Test.YtcakhbhjdpplcaaAa5
import Derived.Test.YtcakhbhjdpplcaaAa6
import Derived.Test.YtcakhbhjdpplcaaAa8
import Derived.Test.YtcakhbhjdpplcaaAa7
namespace Go.Proofs.Ytcakhbhjdpplcaa.Aa
open Go.RowKit Go.Proofs.YtcakhbhjdpplcaaW.PrintWords Go.Proofs.YtcakhbhjdpplcaaW.PrintLast Go.Proofs.YtcakhbhjdpplcaaW.PrintMore
attribute [local go_sem] max2_int min2_int max_two min_two max_three min_three max_four min_four   -- for this text's walks alone
set_option linter.unusedVariables false
set_option linter.unusedSimpArgs false

end Go.Proofs.Ytcakhbhjdpplcaa.Aa
