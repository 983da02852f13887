/- Contracts of functions of the program. -/
import Derived.Test.YtdibolblgchpdaaRP0
import Derived.Test.YtdibolblgchpdaaRPL0c
import Derived.Test.YtdibolblgchpdaaRPL0d
import Derived.Test.YtdibolblgchpdaaRPSq
namespace Go.Proofs.Ytdibolblgchpdaa.P
open Go.RowKit Go.Proofs.YtdibolblgchpdaaW.PrintWords Go.Proofs.YtdibolblgchpdaaW.PrintLast Go.Proofs.YtdibolblgchpdaaW.PrintMore
attribute [local go_sem] max2_int min2_int max_two min_two max_three min_three max_four min_four   -- for this text's walks alone
set_option linter.unusedVariables false
set_option linter.unusedSimpArgs false
attribute [local go_sem high] leqS gtrS geqS
/-! ### atriumref12_Work: function 15 -/
mutual
def atriumref12_Work.l0 : Nat → Int → List (List (S44)) → Int → Int → Option (Int)
 | 0, _, _, _, _ => none
 | k + 1, x3, x12, x13, x14 => if x14 < x13 then (if 0 ≤ x14 then (if x14 < (x12.length : Int) then (atriumref12_Work.l1 k x3 x14 x12 x13 x14 (rd_L3 x12 x14) ((rd_L3 x12 x14).length : Int) 0) else (none)) else (none)) else (some x3)
def atriumref12_Work.l1 : Nat → Int → Int → List (List (S44)) → Int → Int → List (S44) → Int → Int → Option (Int)
 | 0, _, _, _, _, _, _, _, _ => none
 | k + 1, x3, x4, x12, x13, x14, x19, x20, x21 => if x21 < x20 then (if 0 ≤ x21 then (if x21 < (x19.length : Int) then (atriumref12_Work.l1 k (wrap64 (x3 + (wrap64 (((rd_T44 x19 x21).f2) * (wrap64 (6 - x4)))))) x4 x12 x13 x14 x19 x20 (wrap64 (x21 + 1))) else (none)) else (none)) else (atriumref12_Work.l0 k x3 x12 x13 (wrap64 (x14 + 1)))
end
def atriumref12_Work.f (k : Nat) (l0_0 : List (List (S44))) : Option (Int) := (atriumref12_Right.f l0_0).bind fun t197 => (if t197 = true then (atriumref12_Work.l0 k 0 l0_0 (l0_0.length : Int) 0) else (some 0))
end Go.Proofs.Ytdibolblgchpdaa.P
