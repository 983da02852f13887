/- The law MergeThins: the call, for lists that are short. -/
import Derived.Test.YtdpnhnfhobmopaaQ6
import Derived.Test.YtdpnhnfhobmopaaH8
set_option linter.unusedVariables false
set_option linter.unusedSimpArgs false
namespace Go.Proofs.Ytdpnhnfhobmopaa.Pure
open Go.RowKit Go.Proofs.Ytdpnhnfhobmopaa.P Go.Proofs.YtdpnhnfhobmopaaW.PrintWords Go.Proofs.YtdpnhnfhobmopaaW.PrintLast Go.Proofs.YtdpnhnfhobmopaaW.PrintMore

theorem thins_call (A0 : Option Addr) (c0 : Nat) (l0 : List S24) (A1 : Option Addr) (c1 : Nat) (l1 : List S24) (m0 m1 : Int) (w : World) (hr0 : Kd.C k24 w A0 l0.length l0) (hc0 : l0.length ≤ c0) (hr1 : Kd.C k24 w A1 l1.length l1) (hc1 : l1.length ≤ c1) (hl : l0.length + l1.length ≤ 1048576) :
    Calls Try.prog 10 #[.agg #[.slice A0 l0.length c0, .slice A1 l1.length c1], .agg #[.int .u64 m0, .int .u64 m1]] w fun e w' => e = .returned (.bool true) ∧ Below w.heap.size w w' := by
  obtain ⟨K0, e0⟩ := sorted_ref l0 (by omega)
  obtain ⟨K1, e1⟩ := sorted_ref l1 (by omega)
  cases hs : sortedF l0
  · rw [hs] at e0
    exact thins_no0 K0 A0 c0 l0 A1 c1 l1 m0 m1 w hr0 hc0 hr1 hc1 (e0 _ (Nat.le_refl _))
  rw [hs] at e0
  cases hs1 : sortedF l1
  · rw [hs1] at e1
    exact thins_no1 (K0 + K1) A0 c0 l0 A1 c1 l1 m0 m1 w hr0 hc0 hr1 hc1 (e0 _ (by omega)) (e1 _ (by omega))
  rw [hs1] at e1
  have st0 := (sortedF_iff l0).1 hs
  have st1 := (sortedF_iff l1).1 hs1
  obtain ⟨f1, f2, f3, f4⟩ := drop_facts m0 false l0 st0
  have hd : merge_Drop.f l0 m0 false = some (outAll (dropG m0 false) l0) := by unfold merge_Drop.f; rw [if_pos (by omega), if_pos hs]
  have hdl := f1.length_le
  have te := fun q hq => thins_eq m0 q hq l0 l1 st0 st1
  obtain ⟨d, hde⟩ : ∃ d, outAll (dropG m0 false) l0 = d := ⟨_, rfl⟩
  rw [hde] at f1 f2 f3 f4 hd hdl te
  have q1 := merge_val [d, l1] (by simp) (by simp; omega)
  have q2 := merge_val [l0, l1] (by simp) (by simp; omega)
  have n1 := mergeF_len [d, l1]
  have n2 := mergeF_len [l0, l1]
  have z1 : [d, l1].flatten.length = d.length + l1.length := by simp
  have z2 : [l0, l1].flatten.length = l0.length + l1.length := by simp
  rw [z1] at n1
  rw [z2] at n2
  have s1 := mergeL_strict (two_strict f2 st1)
  have s2 := mergeL_strict (two_strict st0 st1)
  rw [mergeF_all (two_strict f2 st1)] at q1 n1
  rw [mergeF_all (two_strict st0 st1)] at q2 n2
  have hv2 : ∀ q, merge_Visible.f (mergeL [l0, l1]) q = some (visR q [] (mergeL [l0, l1])) := fun q => by
    unfold merge_Visible.f
    rw [if_pos (by omega), if_pos ((sortedF_iff _).2 s2), visible_eq q _ s2]
  have hv1 : ∀ q, m0 ≤ q → merge_Visible.f (mergeL [d, l1]) q = some (visR q [] (mergeL [l0, l1])) := fun q hq => by
    unfold merge_Visible.f
    rw [if_pos (by omega), if_pos ((sortedF_iff _).2 s1), visible_eq q _ s1, te q hq]
  have hvl : ∀ q, (visR q [] (mergeL [l0, l1])).length ≤ 1152921504606846976 := fun q => by
    have := visR_len q (mergeL [l0, l1]) []
    omega
  by_cases hlt : m1 < m0
  · obtain ⟨K3, e3⟩ := same_ev _ (hvl m0)
    exact thins_lt (K0 + K1 + K3) A0 c0 l0 A1 c1 l1 m1 m0 w hr0 hc0 hr1 hc1 (e0 _ (by omega)) (e1 _ (by omega)) hlt d _ _ _ hd q1 q2 (hv1 m0 (Int.le_refl _)) (hv2 m0) (e3 _ (by omega))
  · obtain ⟨K3, e3⟩ := same_ev _ (hvl m1)
    exact thins_ge (K0 + K1 + K3) A0 c0 l0 A1 c1 l1 m0 m1 w hr0 hc0 hr1 hc1 (e0 _ (by omega)) (e1 _ (by omega)) hlt d _ _ _ hd q1 q2 (hv1 m1 (by omega)) (hv2 m1) (e3 _ (by omega))
end Go.Proofs.Ytdpnhnfhobmopaa.Pure
