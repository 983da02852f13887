/- Contracts proved by hand: the reference's Check of a version (a state with Log 0, Next 2147483648, Seq 0). -/
import Derived.Test.YtdibolblgchpdaaTH8
import Derived.Test.YtdibolblgchpdaaTPL0c
import Derived.Test.YtdibolblgchpdaaTH4
import Derived.Deep.QuietTactic
import Derived.BigQuiet
namespace Go.Proofs.Ytdibolblgchpdaa.P
open Go.RowKit Go.Proofs.YtdibolblgchpdaaW.PrintWords Go.Proofs.YtdibolblgchpdaaW.PrintLast Go.Proofs.YtdibolblgchpdaaW.PrintMore
attribute [local go_sem] Oper.semAt_some
attribute [local go_sem high] leqS gtrS geqS
set_option linter.unusedVariables false
set_option linter.unusedSimpArgs false
def nums (l : List S44) : List Int := l.map fun t => t.f0
def fresh : List S44 → List Int → Bool
 | [], _ => true
 | t :: l, seen => fileR t && !decide (t.f0 ∈ seen) && fresh l (seen ++ [t.f0])
def allOk : List (List S44) → Nat → List Int → Bool
 | [], _, _ => true
 | l :: ls, i, seen => ordF i l && fresh l seen && decide (seen.length + l.length ≤ 1024) && allOk ls (i + 1) (seen ++ nums l)
theorem fileR_lt (t : S44) (h : fileR t = true) : t.f0 < 2147483648 := by
 have h2 := fileR_val t
 rw [h] at h2
 unfold manifest_fileRight.f at h2
 split at h2
 ·split at h2
  ·omega
  ·simp at h2
 ·simp at h2
theorem wr1 (i : Nat) (h : i ≤ 4611686018427387904) : wrap64 ((i : Int) + 1) = ((i + 1 : Nat) : Int) := by unfold wrap64; omega
def okF (ls : List (List S44)) : Bool := !wrong0 ls && allOk ls 0 []
def ans (b : Bool) : Int := if b = true then 0 else 110
theorem rd_mem (ls : List (List S44)) (n : Int) : rd_L3 ls n = [] ∨ rd_L3 ls n ∈ ls := by
 unfold rd_L3
 rw [List.getD_eq_getElem?_getD]
 by_cases h : n.toNat < ls.length
 ·rw [List.getElem?_eq_getElem h]
  exact .inr (List.getElem_mem h)
 ·rw [List.getElem?_eq_none (by omega)]
  exact .inl rfl
def atriumref11_Check.f (l0_0 : List (List S44)) (a0_1 a0_2 a0_3 : Int) : Option Int := if a0_1 = 0 ∧ a0_2 = 2147483648 ∧ a0_3 = 0 ∧ ∀ l ∈ l0_0, l.length ≤ 2513169434916 then some (ans (okF l0_0)) else none
end Go.Proofs.Ytdibolblgchpdaa.P
