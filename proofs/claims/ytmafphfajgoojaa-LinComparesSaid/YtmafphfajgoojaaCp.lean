/- Contracts of functions of the given program (part Cp): what each call returns, and what becomes of the memory. No condition but those that stand in each. -/
import Derived.Test.YtmafphfajgoojaaCp0
import Derived.Test.YtmafphfajgoojaaCp1
import Derived.Test.YtmafphfajgoojaaCp2
import Derived.Test.YtmafphfajgoojaaCp3
import Derived.Test.YtmafphfajgoojaaCp4
namespace Go.Proofs.Ytmafphfajgoojaa.Cp
open Go.RowKit Go.Proofs.YtmafphfajgoojaaW.PrintWords Go.Proofs.YtmafphfajgoojaaW.PrintLast Go.Proofs.YtmafphfajgoojaaW.PrintMore
attribute [local go_sem] max2_int min2_int max_two min_two max_three min_three max_four min_four   -- for this text's walks alone
set_option linter.unusedVariables false
set_option linter.unusedSimpArgs false

end Go.Proofs.Ytmafphfajgoojaa.Cp
