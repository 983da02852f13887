/- What the printed functions of the pick seat answer, in plain words: span, Meet, sizes. -/
import Derived.Test.YtdibolblgchpdaaTH10
import Derived.Test.YtdibolblgchpdaaTPL0c
import Derived.Test.YtdibolblgchpdaaTP0
import Derived.Test.YtdibolblgchpdaaTPEq
import Derived.Test.YtdibolblgchpdaaTH15
import Derived.Lib.Strings
namespace Go.Proofs.Ytdibolblgchpdaa.P
open Go.RowKit Go.Proofs.YtdibolblgchpdaaW.PrintWords Go.Proofs.YtdibolblgchpdaaW.PrintLast Go.Proofs.YtdibolblgchpdaaW.PrintMore
set_option linter.unusedVariables false
set_option linter.unusedSimpArgs false
theorem cb_less : ∀ a b : List UInt8, Op.bytesLess a b = true ↔ Lib.compareBytes a b < 0
  | [], [] => by simp [Op.bytesLess, Lib.compareBytes]
  | [], _ :: _ => by simp [Op.bytesLess, Lib.compareBytes]
  | _ :: _, [] => by simp [Op.bytesLess, Lib.compareBytes]
  | a :: s1, b :: s2 => by
    have ih := cb_less s1 s2
    unfold Lib.compareBytes Op.bytesLess
    by_cases h1 : a < b
    · simp [h1]
    · by_cases h2 : b < a
      · have : ¬ a = b := fun e => by subst e; exact h1 h2
        simp [h1, h2, this]
      · have : a = b := by
          have h3 : a.toNat ≤ b.toNat := Nat.le_of_not_lt (fun h => h2 (UInt8.lt_iff_toNat_lt.2 h))
          have h4 : b.toNat ≤ a.toNat := Nat.le_of_not_lt (fun h => h1 (UInt8.lt_iff_toNat_lt.2 h))
          exact UInt8.toNat_inj.1 (by omega)
        subst this
        simpa [h1] using ih
end Go.Proofs.Ytdibolblgchpdaa.P
