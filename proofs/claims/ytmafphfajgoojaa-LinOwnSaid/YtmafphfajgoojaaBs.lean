/- Contracts of functions of the given program (part Bs): what each call returns, and what becomes of the memory. No condition but those that stand in each. -/
import Derived.Test.YtmafphfajgoojaaBs0
import Derived.Test.YtmafphfajgoojaaBs1
import Derived.Test.YtmafphfajgoojaaBs2
namespace Go.Proofs.Ytmafphfajgoojaa.Bs
open Go.RowKit Go.Proofs.YtmafphfajgoojaaW.PrintWords Go.Proofs.YtmafphfajgoojaaW.PrintLast Go.Proofs.YtmafphfajgoojaaW.PrintMore
attribute [local go_sem] max2_int min2_int max_two min_two max_three min_three max_four min_four   -- for this text's walks alone
set_option linter.unusedVariables false
set_option linter.unusedSimpArgs false

end Go.Proofs.Ytmafphfajgoojaa.Bs
