/- The law MergeVisible in plain mathematics. -/
import Derived.Test.YtdpnhnfhobmopaaQ2
import Derived.Test.YtdpnhnfhobmopaaH5
import Derived.Test.YtdpnhnfhobmopaaPL3b
import Derived.Test.YtdpnhnfhobmopaaRdS
set_option linter.unusedVariables false
set_option linter.unusedSimpArgs false
namespace Go.Proofs.Ytdpnhnfhobmopaa.Pure
open Go.RowKit Go.Proofs.Ytdpnhnfhobmopaa.P Go.Proofs.YtdpnhnfhobmopaaW.PrintWords Go.Proofs.YtdpnhnfhobmopaaW.PrintLast Go.Proofs.YtdpnhnfhobmopaaW.PrintMore

theorem MergeVisible (l : List S24) (q : Int) (okl : (∀ x ∈ l, Rd.OkC x) ∧ l.length * 48 ≤ 140737488351232) (wq : (Lit.int .u64 q).wf = true) :
    ∃ k, atriumlaw10_MergeVisible.f k l q = some true := by
  have hl : l.length ≤ 2932031007317 := by omega
  apply Ev.rounds
  unfold atriumlaw10_MergeVisible.f
  refine Ev.bind (g := fun _ => atriumlaw10_awake.f) (Ev.now true) ?_
  have hc : ([] : List S24).length + l.length < 2932031007402 := by simp; omega
  have hv : merge_Visible.f l q = some (if sortedF l = true then visR q [] l else []) := by
    unfold merge_Visible.f
    rw [if_pos hl]
    by_cases hs : sortedF l = true
    · rw [if_pos hs, if_pos hs, visible_eq q l ((sortedF_iff l).1 hs)]
    · rw [if_neg hs, if_neg hs]
  simp only [if_true, Option.bind_some, List.nil_append, if_pos hc, hv]
  refine Ev.bind (visible_ref l q hl) (Ev.bind (same_ev _ ?_) ?_)
  · by_cases hs : sortedF l = true
    · rw [if_pos hs]; have := visR_len q l []; omega
    · rw [if_neg hs]; simp
  · simp only [if_true]
    exact Ev.bind (same_ev l (by omega)) (Ev.now _)
end Go.Proofs.Ytdpnhnfhobmopaa.Pure
