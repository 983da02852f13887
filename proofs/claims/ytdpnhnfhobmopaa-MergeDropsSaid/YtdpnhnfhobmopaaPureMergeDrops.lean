/- The law MergeDrops in plain mathematics. -/
import Derived.Test.YtdpnhnfhobmopaaQ2
import Derived.Test.YtdpnhnfhobmopaaH5
import Derived.Test.YtdpnhnfhobmopaaPL3b
import Derived.Test.YtdpnhnfhobmopaaRdS
set_option linter.unusedVariables false
set_option linter.unusedSimpArgs false
namespace Go.Proofs.Ytdpnhnfhobmopaa.Pure
open Go.RowKit Go.Proofs.Ytdpnhnfhobmopaa.P Go.Proofs.YtdpnhnfhobmopaaW.PrintWords Go.Proofs.YtdpnhnfhobmopaaW.PrintLast Go.Proofs.YtdpnhnfhobmopaaW.PrintMore

theorem MergeDrops (l : List S24) (o : Int) (b : Bool) (okl : (∀ x ∈ l, Rd.OkC x) ∧ l.length * 48 ≤ 140737488351232) (wo : (Lit.int .u64 o).wf = true) :
    ∃ k, atriumlaw10_MergeDrops.f k l o b = some true := by
  have hl : l.length ≤ 2932031007317 := by omega
  apply Ev.rounds
  unfold atriumlaw10_MergeDrops.f
  refine Ev.bind (g := fun _ => atriumlaw10_awake.f) (Ev.now true) ?_
  have hc : ([] : List S24).length + l.length < 2932031007402 := by simp; omega
  have hv : merge_Drop.f l o b = some (if sortedF l = true then dropR o b [] l else []) := by
    unfold merge_Drop.f
    rw [if_pos hl]
    by_cases hs : sortedF l = true
    · rw [if_pos hs, if_pos hs, drop_eq o b l ((sortedF_iff l).1 hs)]
    · rw [if_neg hs, if_neg hs]
  simp only [if_true, Option.bind_some, List.nil_append, if_pos hc, hv]
  refine Ev.bind (drop_ref l o b hl) (Ev.bind (same_ev _ ?_) ?_)
  · by_cases hs : sortedF l = true
    · rw [if_pos hs]; have := dropR_len o b l []; omega
    · rw [if_neg hs]; simp
  · simp only [if_true]
    exact Ev.bind (same_ev l (by omega)) (Ev.now _)
end Go.Proofs.Ytdpnhnfhobmopaa.Pure
