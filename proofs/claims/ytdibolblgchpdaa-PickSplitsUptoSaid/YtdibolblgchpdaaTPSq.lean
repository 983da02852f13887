/- Contracts of functions of the program. -/
import Derived.Test.YtdibolblgchpdaaTP0
import Derived.Test.YtdibolblgchpdaaTH15
namespace Go.Proofs.Ytdibolblgchpdaa.P
open Go.RowKit Go.Proofs.YtdibolblgchpdaaW.PrintWords Go.Proofs.YtdibolblgchpdaaW.PrintLast Go.Proofs.YtdibolblgchpdaaW.PrintMore
attribute [local go_sem] max2_int min2_int max_two min_two max_three min_three max_four min_four   -- for this text's walks alone
set_option linter.unusedVariables false
set_option linter.unusedSimpArgs false
attribute [local go_sem high] leqS gtrS geqS
/-! ### atriumref12_Right: function 17 -/
def atriumref12_Right.f (l0_0 : List (List (S44))) : Option (Bool) := (atriumref11_Check.f l0_0 0 2147483648 0).bind fun t168 => (some (t168 == 0))
end Go.Proofs.Ytdibolblgchpdaa.P
