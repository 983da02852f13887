/- The law MergeOrders in plain mathematics. -/
import Derived.Test.YtdpnhnfhobmopaaQ2
import Derived.Test.YtdpnhnfhobmopaaH5
import Derived.Test.YtdpnhnfhobmopaaPL3a
import Derived.Test.YtdpnhnfhobmopaaRdS
set_option linter.unusedVariables false
set_option linter.unusedSimpArgs false
namespace Go.Proofs.Ytdpnhnfhobmopaa.Pure
open Go.RowKit Go.Proofs.Ytdpnhnfhobmopaa.P Go.Proofs.YtdpnhnfhobmopaaW.PrintWords Go.Proofs.YtdpnhnfhobmopaaW.PrintLast Go.Proofs.YtdpnhnfhobmopaaW.PrintMore

theorem less_ev (a b : S24) : Ev (fun k => merge_Less.f k a.f0 a.f1 a.f2 a.f3 b.f0 b.f1 b.f2 b.f3) (decide (cmpOf a b < 0)) := Ev.of (fun k => merge_Less.mono _ _ _ _ _ _ _ _ k) (less_val 0 a b)
theorem MergeOrders (a b : S24) (l : List S24) (oka : Rd.OkC a) (okb : Rd.OkC b) (okl : (∀ x ∈ l, Rd.OkC x) ∧ l.length * 48 ≤ 140737488351232) :
    ∃ k, atriumlaw10_MergeOrders.f k a.f0 a.f1 a.f2 a.f3 b.f0 b.f1 b.f2 b.f3 l = some true := by
  apply Ev.rounds
  unfold atriumlaw10_MergeOrders.f
  refine Ev.bind (g := fun _ => atriumlaw10_awake.f) (Ev.now true) ?_
  simp only [if_true]
  refine Ev.bind (less_ev a b) (Ev.bind (g := fun _ => atriumref06_Less.f a.f0 a.f1 a.f2 a.f3 b.f0 b.f1 b.f2 b.f3) (Ev.congr (fun _ => less_ref a b) (Ev.now _)) ?_)
  simp only [beq_self_eq_true, if_true]
  refine Ev.bind (sorted_ev l (by omega)) (Ev.bind (sorted_ref l (by omega)) ?_)
  simp only [beq_self_eq_true, if_true]
  refine Ev.bind (less_ev a b) ?_
  by_cases h : cmpOf a b < 0
  · rw [decide_eq_true h]
    simp only [if_true]
    refine Ev.bind (less_ev b a) ?_
    have h2 : ¬ cmpOf b a < 0 := by have := cmp_swap a b; omega
    rw [decide_eq_false h2]
    exact Ev.now _
  · rw [decide_eq_false h]
    simp only [Bool.false_eq_true, if_false]
    exact Ev.now _
end Go.Proofs.Ytdpnhnfhobmopaa.Pure
