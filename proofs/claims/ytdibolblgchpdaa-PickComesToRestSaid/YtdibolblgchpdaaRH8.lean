/- Contracts proved by hand: manifest.Check, in the printed form. -/
import Derived.Test.YtdibolblgchpdaaRH1
namespace Go.Proofs.Ytdibolblgchpdaa.P
open Go.RowKit Go.Proofs.YtdibolblgchpdaaW.PrintWords Go.Proofs.YtdibolblgchpdaaW.PrintLast Go.Proofs.YtdibolblgchpdaaW.PrintMore
set_option linter.unusedVariables false
set_option linter.unusedSimpArgs false
theorem wrong_cases (ls : List (List S44)) : (7 < ls.length ∧ wrong0 ls = true) ∨ (ls.length = 0 ∧ wrong0 ls = false) ∨ (¬ 7 < ls.length ∧ 0 < ls.length ∧ (rd_L3 ls ((ls.length - 1 : Nat) : Int)).length = 0 ∧ wrong0 ls = true) ∨ (¬ 7 < ls.length ∧ 0 < ls.length ∧ ¬ (rd_L3 ls ((ls.length - 1 : Nat) : Int)).length = 0 ∧ wrong0 ls = false) := by
  have e : rd_L3 ls ((ls.length - 1 : Nat) : Int) = ls.getD (ls.length - 1) [] := by simp only [rd_L3, Int.toNat_natCast]
  rw [e]
  unfold wrong0
  by_cases h7 : 7 < ls.length
  · exact .inl ⟨h7, by rw [decide_eq_true h7]; rfl⟩
  · by_cases h0 : ls.length = 0
    · exact .inr (.inl ⟨h0, by rw [decide_eq_false h7, decide_eq_false (by omega)]; rfl⟩)
    · have hp : 0 < ls.length := by omega
      by_cases hl : (ls.getD (ls.length - 1) []).length = 0
      · exact .inr (.inr (.inl ⟨h7, hp, hl, by rw [decide_eq_true hp, decide_eq_true hl]; simp⟩))
      · exact .inr (.inr (.inr ⟨h7, hp, hl, by rw [decide_eq_false h7, decide_eq_false hl]; simp⟩))
def manifest_Check.f (l0_0 : List (List S44)) (a0_1 a0_2 a0_3 : Int) : Option Int := if a0_1 = 0 ∧ a0_2 = 2147483648 ∧ a0_3 = 0 then some (checkF l0_0) else none
theorem manifest_Check.calls (A0_0 : Option Addr) (c0_0 : Nat) (l0_0 : List (List S44)) (a0_1 : Int) (a0_2 : Int) (a0_3 : Int) (r : Int) (w : World) (hr0_0 : Kd.C (Kd.slice 44 k44) w A0_0 l0_0.length l0_0) (hc0_0 : l0_0.length ≤ c0_0) (h : manifest_Check.f l0_0 a0_1 a0_2 a0_3 = some r) :
    Calls Try.prog 48 #[.agg #[.slice A0_0 l0_0.length c0_0, .int .i64 a0_1, .int .i64 a0_2, .int .u64 a0_3]] w fun e w' => e = .returned (.int .i64 r) ∧ Below w.heap.size w w' := by
  unfold manifest_Check.f at h
  by_cases hc : a0_1 = 0 ∧ a0_2 = 2147483648 ∧ a0_3 = 0
  · rw [if_pos hc] at h
    obtain ⟨rfl, rfl, rfl⟩ := hc
    obtain rfl := Option.some.inj h
    exact check_core A0_0 c0_0 l0_0 w hr0_0 hc0_0 (wrong_cases l0_0)
  · rw [if_neg hc] at h
    cases h
end Go.Proofs.Ytdibolblgchpdaa.P
