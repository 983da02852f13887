/- The law MergeCuts in plain mathematics. -/
import Derived.Test.YtdpnhnfhobmopaaQ3
import Derived.Test.YtdpnhnfhobmopaaH5
import Derived.Test.YtdpnhnfhobmopaaPL3c
set_option linter.unusedVariables false
set_option linter.unusedSimpArgs false
namespace Go.Proofs.Ytdpnhnfhobmopaa.Pure
open Go.RowKit Go.Proofs.Ytdpnhnfhobmopaa.P Go.Proofs.YtdpnhnfhobmopaaW.PrintWords Go.Proofs.YtdpnhnfhobmopaaW.PrintLast Go.Proofs.YtdpnhnfhobmopaaW.PrintMore

theorem rdL5_get (L : List (List S24)) (i : Nat) (h : i < L.length) : rd_L5 L (i : Int) = L[i] := by
  rw [rdL5_getD, List.getD_eq_getElem?_getD, List.getElem?_eq_getElem h]
  rfl
theorem wrM (n : Nat) (h : 0 < n) (h2 : n ≤ 1048576) : wrap64 ((n : Int) - 1) = ((n - 1 : Nat) : Int) := by unfold wrap64; omega
theorem cuts_loop (l : List S24) (size : Int) (L : List (List S24)) (hl : l.length ≤ 1048576) (hne : ∀ p ∈ L, p ≠ []) (hbd : ∀ i, (h : i < L.length) → Bd ((L.take i).flatten) L[i]) (hlen : L.flatten.length ≤ 1048576) (hLl : L.length ≤ 1048576)
    (hfin : sortedF l = true → 1 ≤ size → L.flatten = l) (d : Nat) : ∀ i : Nat, i ≤ L.length → L.length - i = d → Ev (fun k => atriumlaw10_MergeCuts.l0 k l size L L (L.take i).flatten (L.length : Int) (i : Int)) true := by
  induction d with
  | zero =>
    intro i hi hd
    obtain rfl : i = L.length := by omega
    rw [List.take_length]
    refine Ev.step (f := fun k => (atriumref10_Sorted.f k l).bind fun t335 => (if t335 = true then (if size < 1 then (some true) else ((atriumlaw10_same.f k L.flatten l).bind fun t336 => (some t336))) else (some true))) (fun k => ?_) ?_
    · simp only [atriumlaw10_MergeCuts.l0]
      rw [if_neg (by omega)]
    · refine Ev.bind (sorted_ref l (by omega)) ?_
      cases hs : sortedF l
      · exact Ev.now _
      · simp only [if_true]
        by_cases hz : size < 1
        · simp only [if_pos hz]; exact Ev.now _
        · simp only [if_neg hz]
          rw [hfin hs (by omega)]
          exact Ev.bind (same_ev l (by omega)) (Ev.now _)
  | succ d ih =>
    intro i hi hd
    have hlt : i < L.length := by omega
    have ih' := ih (i + 1) (by omega) (by omega)
    have htk : (L.take (i + 1)).flatten = (L.take i).flatten ++ L[i] := by
      rw [List.take_succ_eq_append_getElem hlt, List.flatten_append, List.flatten_cons, List.flatten_nil, List.append_nil]
    have hsum : ((L.take i).flatten ++ L[i]).length ≤ 1048576 := by
      rw [← htk]
      have h := congrArg List.length (congrArg List.flatten (List.take_append_drop (i + 1) L))
      rw [List.flatten_append, List.length_append] at h
      omega
    rw [htk] at ih'
    rw [List.length_append] at hsum
    have hb := hbd i hlt
    have hp := hne L[i] (List.getElem_mem hlt)
    have hrd := rdL5_get L i hlt
    generalize (L.take i).flatten = all at ih' hsum hb ⊢
    generalize L[i] = p at ih' hsum hb hp hrd
    have c1 : (i : Int) < (L.length : Int) := by omega
    have c2 : (0 : Int) ≤ (i : Int) := by omega
    have hp0 : 0 < p.length := List.length_pos_iff.2 hp
    have hj : Ev (fun k => atriumlaw10_MergeCuts.j1 k l size L L all (i : Int) (L.length : Int) (i : Int) ((p.length : Int) == 0)) true := by
      refine Ev.step (fun k => ?_) ih'
      simp only [atriumlaw10_MergeCuts.j1]
      rw [if_neg (by simp; omega), hrd, wr1 i (by omega)]
      by_cases ha : all = []
      · subst ha
        rw [if_neg (by simp), if_pos c2, if_pos c1, if_pos (by simp; omega)]
      · have ha0 : 0 < all.length := List.length_pos_iff.2 ha
        have hm : all.length - 1 < all.length := by omega
        rw [if_pos (by omega), wrM all.length ha0 (by omega), if_pos (by omega), if_pos (by omega), if_pos c2, if_pos c1, if_pos (by omega)]
        have hx : rd_T24 all ((all.length - 1 : Nat) : Int) = all[all.length - 1] := rd24_getElem all _ hm
        have hy : rd_T24 p 0 = p[0] := rd24_getElem p 0 hp0
        have hk : all[all.length - 1].f0.toList ≠ p[0].f0.toList := by
          refine hb _ ?_ _ ?_
          · rw [List.getLast?_eq_getElem?, List.getElem?_eq_getElem hm]; rfl
          · rw [List.head?_eq_getElem?, List.getElem?_eq_getElem hp0]; rfl
        rw [hx, hy, if_neg hk, if_pos (by omega)]
    refine Ev.step (f := fun k => (atriumlaw10_same.f k p p).bind fun t339 => (if t339 = true then (atriumlaw10_MergeCuts.j1 k l size L L all (i : Int) (L.length : Int) (i : Int) ((p.length : Int) == 0)) else (atriumlaw10_MergeCuts.j1 k l size L L all (i : Int) (L.length : Int) (i : Int) true))) (fun k => ?_) ?_
    · simp only [atriumlaw10_MergeCuts.l0]
      rw [if_pos c1, if_pos c2, if_pos c1, if_pos c1, hrd]
    · refine Ev.bind (same_ev p (by omega)) ?_
      simp only [if_true]
      exact hj
theorem MergeCuts (l : List S24) (size : Int) (hl : l.length ≤ 1048576) (hg : gsize l ≤ 1152921504606846976) (hz : size ≤ 9223372036854775807) :
    ∃ k, atriumlaw10_MergeCuts.f k l size = some true := by
  obtain ⟨h1, h2, h3⟩ := cutF_all size l
  apply Ev.rounds
  unfold atriumlaw10_MergeCuts.f
  refine Ev.bind (g := fun _ => atriumlaw10_awake.f) (Ev.now true) ?_
  simp only [if_true]
  have hc : merge_Cut.f l size = some (if sortedF l = true ∧ 1 ≤ size then cutF size l else []) := by
    unfold merge_Cut.f
    rw [if_pos ⟨by omega, hg, hz⟩]
    split <;> rfl
  refine Ev.bind (g := fun _ => merge_Cut.f l size) (Ev.congr (fun _ => hc) (Ev.now _)) (Ev.bind (cut_ref l size (by omega) hg) ?_)
  simp only [if_true]
  have hfl := flat_len (cutF size l) h2
  rw [h1] at hfl
  by_cases hs : sortedF l = true ∧ 1 ≤ size
  · simp only [if_pos hs]
    have := cuts_loop l size (cutF size l) hl h2 h3 (by rw [h1]; exact hl) (by omega) (fun _ _ => h1) _ 0 (Nat.zero_le _) rfl
    exact this
  · simp only [if_neg hs]
    have := cuts_loop l size [] hl (fun p hp => by cases hp) (fun i h => absurd h (Nat.not_lt_zero _)) (by simp) (by simp) (fun a b => absurd ⟨a, b⟩ hs) _ 0 (Nat.zero_le _) rfl
    exact this
end Go.Proofs.Ytdpnhnfhobmopaa.Pure
