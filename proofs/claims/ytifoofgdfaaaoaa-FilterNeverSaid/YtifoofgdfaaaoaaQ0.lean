/- Two closed facts. -/
import Derived.Test.YtifoofgdfaaaoaaPL1a
namespace Go.Proofs.Ytifoofgdfaaaoaa.P
open Go.RowKit Go.Proofs.YtifoofgdfaaaoaaW.PrintWords Go.Proofs.YtifoofgdfaaaoaaW.PrintLast Go.Proofs.YtifoofgdfaaaoaaW.PrintMore
set_option linter.unusedVariables false
set_option linter.unusedSimpArgs false

theorem lives_true : atriumlaw07_lives.f = some true := by kernel_rfl
def bit8 (c : Int) (j : Nat) : Int := bits .and .u8 (c / 2 ^ j) 1
theorem pop8_all : ∀ c : Fin 256, pop8 (c.val : Int) = bit8 c.val 0 + bit8 c.val 1 + bit8 c.val 2 + bit8 c.val 3 + bit8 c.val 4 + bit8 c.val 5 + bit8 c.val 6 + bit8 c.val 7 := by decide +kernel
end Go.Proofs.Ytifoofgdfaaaoaa.P
