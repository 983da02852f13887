/- The law MergeKinds: the call, for lists that are short. -/
import Derived.Test.YtdpnhnfhobmopaaQ4
import Derived.Test.YtdpnhnfhobmopaaH6
set_option linter.unusedVariables false
set_option linter.unusedSimpArgs false
namespace Go.Proofs.Ytdpnhnfhobmopaa.Pure
open Go.RowKit Go.Proofs.Ytdpnhnfhobmopaa.P Go.Proofs.YtdpnhnfhobmopaaW.PrintWords Go.Proofs.YtdpnhnfhobmopaaW.PrintLast Go.Proofs.YtdpnhnfhobmopaaW.PrintMore

theorem kinds_call (A0 : Option Addr) (c0 : Nat) (l0 : List S24) (A1 : Option Addr) (c1 : Nat) (l1 : List S24) (A2 : Option Addr) (c2 : Nat) (l2 : List S24) (w : World) (hr0 : Kd.C k24 w A0 l0.length l0) (hc0 : l0.length ≤ c0) (hr1 : Kd.C k24 w A1 l1.length l1) (hc1 : l1.length ≤ c1) (hr2 : Kd.C k24 w A2 l2.length l2) (hc2 : l2.length ≤ c2)
    (hl : l0.length + l1.length + l2.length ≤ 1048576) :
    Calls Try.prog 5 #[.slice A0 l0.length c0, .slice A1 l1.length c1, .slice A2 l2.length c2] w fun e w' => e = .returned (.bool true) ∧ Below w.heap.size w w' := by
  obtain ⟨K0, e0⟩ := sorted_ref l0 (by omega)
  obtain ⟨K1, e1⟩ := sorted_ref l1 (by omega)
  obtain ⟨K2, e2⟩ := sorted_ref l2 (by omega)
  have f3 : [l0, l1, l2].flatten.length = l0.length + (l1.length + l2.length) := by simp
  have hm := merge_val [l0, l1, l2] (by simp) (by omega)
  by_cases hs : sortedF l0 = true ∧ sortedF l1 = true ∧ sortedF l2 = true
  · obtain ⟨s0, s1, s2⟩ := hs
    obtain ⟨t1, t2, t3, t4, t5, t6⟩ := three ((sortedF_iff l0).1 s0) ((sortedF_iff l1).1 s1) ((sortedF_iff l2).1 s2)
    have m3 := mergeF_len [l0, l1, l2]
    have m1 := mergeF_len [l0, l1]
    have m2 := mergeF_len [l1, l2]
    have f1 : [l0, l1].flatten.length = l0.length + l1.length := by simp
    have f2 : [l1, l2].flatten.length = l1.length + l2.length := by simp
    rw [f1] at m1
    rw [f2] at m2
    rw [f3] at m3
    have q1 := merge_val [l0, l1] (by simp) (by rw [f1]; omega)
    have q2 := merge_val [l1, l2] (by simp) (by rw [f2]; omega)
    have q3 := merge_val [mergeF [l0, l1], l2] (by simp) (by simp only [List.flatten_cons, List.flatten_nil, List.append_nil, List.length_append]; omega)
    have q4 := merge_val [l0, mergeF [l1, l2]] (by simp) (by simp only [List.flatten_cons, List.flatten_nil, List.append_nil, List.length_append]; omega)
    have q5 := merge_val [mergeF [l0, l1, l2], mergeF [l0, l1, l2]] (by simp) (by simp only [List.flatten_cons, List.flatten_nil, List.append_nil, List.length_append]; omega)
    rw [t1] at q3
    rw [t2] at q4
    rw [t3] at q5
    obtain ⟨K3, e3⟩ := same_ev (mergeF [l0, l1, l2]) (by omega)
    obtain ⟨K4, e4⟩ := sorted_ev (mergeF [l0, l1, l2]) (by omega)
    rw [(sortedF_iff _).2 t4] at e4
    rw [s0] at e0
    rw [s1] at e1
    rw [s2] at e2
    exact kinds_yes (K0 + K1 + K2 + K3 + K4) A0 c0 l0 A1 c1 l1 A2 c2 l2 w hr0 hc0 hr1 hc1 hr2 hc2 _ _ _ hm (e0 _ (by omega)) (e1 _ (by omega)) (e2 _ (by omega)) q1 q3 q2 q4 q5 (e3 _ (by omega)) (e4 _ (by omega))
  · have hn : mergeF [l0, l1, l2] = [] := mergeF_no (by simp only [List.all_cons, List.all_nil, Bool.and_true, Bool.and_eq_true]; exact hs)
    rw [hn] at hm
    refine kinds_no (K0 + K1 + K2) A0 c0 l0 A1 c1 l1 A2 c2 l2 w hr0 hc0 hr1 hc1 hr2 hc2 hm ?_
    have g0 := e0 (K0 + K1 + K2) (by omega)
    have g1 := e1 (K0 + K1 + K2) (by omega)
    have g2 := e2 (K0 + K1 + K2) (by omega)
    cases s0 : sortedF l0
    · rw [s0] at g0; exact .inl g0
    · rw [s0] at g0
      cases s1 : sortedF l1
      · rw [s1] at g1; exact .inr (.inl ⟨g0, g1⟩)
      · rw [s1] at g1
        cases s2 : sortedF l2
        · rw [s2] at g2; exact .inr (.inr ⟨g0, g1, g2⟩)
        · exact absurd ⟨s0, s1, s2⟩ hs
end Go.Proofs.Ytdpnhnfhobmopaa.Pure
