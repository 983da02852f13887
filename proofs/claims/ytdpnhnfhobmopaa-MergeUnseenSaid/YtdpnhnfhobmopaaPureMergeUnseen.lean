/- The law MergeUnseen: the call. -/
import Derived.Test.YtdpnhnfhobmopaaQ5
import Derived.Test.YtdpnhnfhobmopaaH7
set_option linter.unusedVariables false
set_option linter.unusedSimpArgs false
namespace Go.Proofs.Ytdpnhnfhobmopaa.Pure
open Go.RowKit Go.Proofs.Ytdpnhnfhobmopaa.P Go.Proofs.YtdpnhnfhobmopaaW.PrintWords Go.Proofs.YtdpnhnfhobmopaaW.PrintLast Go.Proofs.YtdpnhnfhobmopaaW.PrintMore

theorem unseen_call (A0 : Option Addr) (c0 : Nat) (l0 : List S24) (m0 m1 : Int) (b : Bool) (w : World) (hr0 : Kd.C k24 w A0 l0.length l0) (hc0 : l0.length ≤ c0) (hl : l0.length ≤ 2932031007317) :
    Calls Try.prog 8 #[.slice A0 l0.length c0, .agg #[.int .u64 m0, .int .u64 m1], .bool b] w fun e w' => e = .returned (.bool true) ∧ Below w.heap.size w w' := by
  obtain ⟨K0, e0⟩ := sorted_ref l0 (by omega)
  cases hs : sortedF l0
  · rw [hs] at e0
    exact unseen_no K0 A0 c0 l0 m0 m1 b w hr0 hc0 (e0 _ (Nat.le_refl _))
  · rw [hs] at e0
    have hst := (sortedF_iff l0).1 hs
    obtain ⟨f1, f2, f3, f4⟩ := drop_facts m0 b l0 hst
    have hd : merge_Drop.f l0 m0 b = some (outAll (dropG m0 b) l0) := by unfold merge_Drop.f; rw [if_pos hl, if_pos hs]
    have hdl := f1.length_le
    obtain ⟨d, hde⟩ : ∃ d, outAll (dropG m0 b) l0 = d := ⟨_, rfl⟩
    rw [hde] at f1 f2 f3 f4 hd hdl
    have hds : sortedF d = true := (sortedF_iff d).2 f2
    have hdd : merge_Drop.f d m0 b = some d := by unfold merge_Drop.f; rw [if_pos (by omega), if_pos hds, f3]
    obtain ⟨K1, e1⟩ := sorted_ev d (by omega)
    rw [hds] at e1
    obtain ⟨K2, e2⟩ := same_ev d (by omega)
    have hsub := leftIn_sub l0 d d f1 ⟨[], rfl⟩
    have hv : ∀ q, merge_Visible.f l0 q = some (outAll (visG q) l0) := fun q => by unfold merge_Visible.f; rw [if_pos hl, if_pos hs]
    have hvd : ∀ q, m0 ≤ q → merge_Visible.f d q = some (outAll (visG q) l0) := fun q hq => by unfold merge_Visible.f; rw [if_pos (by omega), if_pos hds, f4 q hq]
    by_cases hlt : m1 < m0
    · obtain ⟨K3, e3⟩ := same_ev (outAll (visG m0) l0) (by have := visG_len' m0 l0; omega)
      exact unseen_lt (K0 + K1 + K2 + K3) A0 c0 l0 m1 m0 b w hr0 hc0 hl (e0 _ (by omega)) hlt d _ hd hdl (e1 _ (by omega)) hdd (e2 _ (by omega)) hsub (hvd m0 (Int.le_refl _)) (hv m0) (e3 _ (by omega))
    · obtain ⟨K3, e3⟩ := same_ev (outAll (visG m1) l0) (by have := visG_len' m1 l0; omega)
      exact unseen_ge (K0 + K1 + K2 + K3) A0 c0 l0 m0 m1 b w hr0 hc0 hl (e0 _ (by omega)) hlt d _ hd hdl (e1 _ (by omega)) hdd (e2 _ (by omega)) hsub (hvd m1 (by omega)) (hv m1) (e3 _ (by omega))
end Go.Proofs.Ytdpnhnfhobmopaa.Pure
