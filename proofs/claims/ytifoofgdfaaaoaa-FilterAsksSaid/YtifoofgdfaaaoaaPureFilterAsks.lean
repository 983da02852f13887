/- The law FilterAsks in plain mathematics. -/
import Derived.Test.YtifoofgdfaaaoaaQ2
import Derived.Test.YtifoofgdfaaaoaaPL1c
set_option linter.unusedVariables false
namespace Go.Proofs.Ytifoofgdfaaaoaa.Pure
open Go.RowKit Go.Proofs.Ytifoofgdfaaaoaa.P Go.Proofs.YtifoofgdfaaaoaaW.PrintWords Go.Proofs.YtifoofgdfaaaoaaW.PrintLast Go.Proofs.YtifoofgdfaaaoaaW.PrintMore

theorem FilterAsks (l0 l1 : List Int) (a2 : ByteArray) (ok0 : (∀ x ∈ l0, (Lit.int .u8 x).wf = true) ∧ l0.length * 1 ≤ 140737488351232) (ok1 : (∀ x ∈ l1, (Lit.int .u8 x).wf = true) ∧ l1.length * 1 ≤ 140737488351232) (w2 : a2.size ≤ 140737488351232) :
    ∃ k, atriumlaw07_FilterAsks.f k l0 l1 a2 = some true := by
  obtain ⟨r, hr⟩ := may_some l0 a2 (by omega) w2
  have hr2 : atriumref07_May.f l0 a2 = some r := hr
  obtain ⟨n, hn, hn2⟩ := ones_eq l0 (isBytes_of ok0.1) (by omega)
  obtain ⟨t, ht, _⟩ := check_some l0 (by omega)
  have ht2 : atriumref07_Check.f l0 = some t := ht
  have hml := mergeOf_length l0 l1
  apply EvS.ex
  have h0 : ([] : List Int).length + l0.length < 140737488355328 := by simp; omega
  have h1 : ([] : List Int).length + l1.length < 140737488355328 := by simp; omega
  refine EvS.congr (h := fun k => (filter_Merge.f k l0 l1).bind fun bt198 => ((atriumref07_Merge.f k l0 l1).bind fun bt202 => ((atriumref07_Ones.f k l0).bind fun t212 => (if n = t212 then ((atriumlaw07_sameBytes.f k bt198.1 bt202.1).bind fun t213 => (if t213 = true then (if bt198.2 = bt202.2 then ((atriumlaw07_sameBytes.f k l0 l0).bind fun t214 => (if t214 = true then ((atriumlaw07_sameBytes.f k l1 l1).bind fun t215 => (some t215)) else (some false))) else (some false)) else (some false))) else (some false))))) (fun k => ?_) ?_
  · unfold atriumlaw07_FilterAsks.f
    simp only [Option.bind_some, List.nil_append, if_pos h0, if_pos h1, lives_true, if_true, ht, ht2, hr, hr2, hn, beq_self_eq_true]
  · refine EvS.bind (merge_impl l0 l1 (by omega) (by omega)) (EvS.bind (merge_ref l0 l1 (by omega) (by omega)) (EvS.bind hn2 ?_))
    simp only [if_true]
    refine EvS.bind (same_refl _ (by omega)) ?_
    simp only [if_true]
    refine EvS.bind (same_refl _ (by omega)) ?_
    simp only [if_true]
    exact EvS.bind (same_refl _ (by omega)) (EvS.const rfl)
end Go.Proofs.Ytifoofgdfaaaoaa.Pure
