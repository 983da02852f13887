/- The law MergeLists: the reference's Merge in plain words; the call, for lists that are short. -/
import Derived.Test.YtdpnhnfhobmopaaQ1
import Derived.Test.YtdpnhnfhobmopaaQ4
import Derived.Test.YtdpnhnfhobmopaaH9
namespace Go.Proofs.Ytdpnhnfhobmopaa.P
open Go.RowKit Go.Proofs.YtdpnhnfhobmopaaW.PrintWords Go.Proofs.YtdpnhnfhobmopaaW.PrintLast Go.Proofs.YtdpnhnfhobmopaaW.PrintMore
set_option linter.unusedVariables false
set_option linter.unusedSimpArgs false


theorem with0 (l : List S24) (c : S24) (hl : l.length + 1 < 2932031007402) (d : Nat) : ∀ i : Nat, i ≤ l.length → l.length - i = d →
    Ev (fun k => atriumref10_with.l0 k l (i : Int) c.f0 c.f1 c.f2 c.f3) (l.take i ++ withF (l.drop i) c) := by
  have ec : (⟨c.f0, c.f1, c.f2, c.f3⟩ : S24) = c := rfl
  induction d with
  | zero =>
    intro i hi hd
    have hi2 : i = l.length := by omega
    subst hi2
    rw [List.drop_eq_nil_of_le (Nat.le_refl _)]
    refine Ev.step (f := fun _ => some (l.take l.length ++ [c])) (fun k => ?_) (Ev.now _)
    simp only [atriumref10_with.l0, Option.bind_some, ec, List.nil_append]
    rw [if_neg (by omega), if_pos (by omega), if_pos (by omega)]
    rw [Int.toNat_natCast, if_pos (by simp; omega), if_pos (by simp; omega), List.drop_eq_nil_of_le (Nat.le_refl _), if_pos (by simp; omega)]
    simp
  | succ d ih =>
    intro i hi hd
    have hi1 : i < l.length := by omega
    have c1 : (i : Int) < (l.length : Int) := by omega
    have c2 : (0 : Int) ≤ (i : Int) := by omega
    have e : l.drop i = l[i] :: l.drop (i + 1) := List.drop_eq_getElem_cons hi1
    have et : l.take (i + 1) = l.take i ++ [l[i]] := List.take_succ_eq_append_getElem hi1
    have hs := cmp_swap l[i] c
    by_cases hb : cmpOf l[i] c < 0
    · have hw : withF (l.drop i) c = l[i] :: withF (l.drop (i + 1)) c := by rw [e]; unfold withF; rw [if_pos hb]; cases l.drop (i + 1) <;> rfl
      have h2 := ih (i + 1) (by omega) (by omega)
      rw [et, List.append_assoc, List.singleton_append, ← hw] at h2
      refine Ev.step (f := fun k => atriumref10_with.l0 k l ((i + 1 : Nat) : Int) c.f0 c.f1 c.f2 c.f3) (fun k => ?_) h2
      simp only [atriumref10_with.l0]
      rw [if_pos c1, if_pos c2, rd24_getElem l i hi1, less_ref, Option.bind_some, decide_eq_true hb, if_pos rfl, wr1 i (by omega)]
    · by_cases hz : cmpOf l[i] c = 0
      · have hw : withF (l.drop i) c = l.drop i := by rw [e]; unfold withF; rw [if_neg hb, if_pos hz]
        rw [hw, List.take_append_drop]
        refine Ev.step (f := fun _ => some l) (fun k => ?_) (Ev.now _)
        simp only [atriumref10_with.l0]
        rw [if_pos c1, if_pos c2, rd24_getElem l i hi1, less_ref, less_ref, Option.bind_some, decide_eq_false hb, if_neg (by decide), Option.bind_some, decide_eq_false (by omega), if_neg (by decide)]
      · have hw : withF (l.drop i) c = c :: l.drop i := by rw [e]; unfold withF; rw [if_neg hb, if_neg hz]
        rw [hw]
        refine Ev.step (f := fun _ => some (l.take i ++ c :: l.drop i)) (fun k => ?_) (Ev.now _)
        simp only [atriumref10_with.l0, ec, List.nil_append]
        rw [if_pos c1, if_pos c2, rd24_getElem l i hi1, less_ref, less_ref, Option.bind_some, decide_eq_false hb, if_neg (by decide), Option.bind_some, decide_eq_true (by omega), if_pos rfl]
        simp only [Option.bind_some]
        rw [if_pos (by omega), Int.toNat_natCast, if_pos (by simp; omega), if_pos (by simp; omega), if_pos (by simp; omega)]
        simp
theorem with_ref (l : List S24) (c : S24) (hl : l.length + 1 < 2932031007402) : Ev (fun k => atriumref10_with.f k l c.f0 c.f1 c.f2 c.f3) (withF l c) := by
  have h := with0 l c hl l.length 0 (Nat.zero_le _) rfl
  rw [List.take_zero, List.nil_append, List.drop_zero] at h
  exact h
theorem mg1 (ls : List (List S24)) (n x10 : Int) (x : List S24) (R : List S24) (hx : x.length ≤ 1152921504606846976) (d : Nat) : ∀ (j : Nat) (out : List S24), j ≤ x.length → x.length - j = d → out.length + d < 2932031007402 →
    Ev (fun k => atriumref10_Merge.l0 k ((x.drop j).foldl withF out) ls n (wrap64 (x10 + 1))) R → Ev (fun k => atriumref10_Merge.l1 k out ls n x10 x (x.length : Int) (j : Int)) R := by
  induction d with
  | zero =>
    intro j out hj hd ho h
    have hj2 : j = x.length := by omega
    subst hj2
    rw [List.drop_eq_nil_of_le (Nat.le_refl _)] at h
    refine Ev.step (f := fun k => atriumref10_Merge.l0 k out ls n (wrap64 (x10 + 1))) (fun k => ?_) h
    simp only [atriumref10_Merge.l1]
    rw [if_neg (by omega)]
  | succ d ih =>
    intro j out hj hd ho h
    have hj1 : j < x.length := by omega
    rw [List.drop_eq_getElem_cons hj1, List.foldl_cons] at h
    have hw := withF_len x[j] out
    have h2 := ih (j + 1) (withF out x[j]) (by omega) (by omega) (by omega) h
    refine Ev.step (f := fun k => (atriumref10_with.f k out x[j].f0 x[j].f1 x[j].f2 x[j].f3).bind fun t => atriumref10_Merge.l1 k t ls n x10 x (x.length : Int) ((j + 1 : Nat) : Int)) (fun k => ?_) (Ev.bind (with_ref out x[j] (by omega)) h2)
    simp only [atriumref10_Merge.l1]
    rw [if_pos (by omega), if_pos (by omega), if_pos (by omega), rd24_getElem x j hj1, wr1 j (by omega)]
theorem mg0 (ls : List (List S24)) (hn : ls.length ≤ 1152921504606846976) (d : Nat) : ∀ (i : Nat) (out : List S24), i ≤ ls.length → ls.length - i = d → out.length + ((ls.drop i).flatten).length < 2932031007402 →
    Ev (fun k => atriumref10_Merge.l0 k out ls (ls.length : Int) (i : Int)) (if (ls.drop i).all sortedF = true then (ls.drop i).foldl (fun out l => l.foldl withF out) out else []) := by
  induction d with
  | zero =>
    intro i out hi hd ho
    have hi2 : i = ls.length := by omega
    subst hi2
    rw [List.drop_eq_nil_of_le (Nat.le_refl _), List.all_nil, if_pos rfl]
    refine Ev.step (f := fun _ => some out) (fun k => ?_) (Ev.now _)
    simp only [atriumref10_Merge.l0]
    rw [if_neg (by omega)]
  | succ d ih =>
    intro i out hi hd ho
    have hi1 : i < ls.length := by omega
    have e : ls.drop i = ls[i] :: ls.drop (i + 1) := List.drop_eq_getElem_cons hi1
    have er : rd_L5 ls (i : Int) = ls[i] := by rw [rdL5_getD, List.getD_eq_getElem?_getD, List.getElem?_eq_getElem hi1]; rfl
    rw [e, List.flatten_cons, List.length_append] at ho
    rw [e]
    have hsr := sorted_ref ls[i] (by omega)
    by_cases hb : sortedF ls[i] = true
    · rw [hb] at hsr
      have hfl := fold_len ls[i] out
      have h2 := ih (i + 1) (ls[i].foldl withF out) (by omega) (by omega) (by omega)
      rw [← wr1 i (by omega)] at h2
      have h3 := mg1 ls (ls.length : Int) (i : Int) ls[i] _ (by omega) ls[i].length 0 out (Nat.zero_le _) rfl (by omega) (by rw [List.drop_zero]; exact h2)
      have ev : (if (ls[i] :: ls.drop (i + 1)).all sortedF = true then (ls[i] :: ls.drop (i + 1)).foldl (fun out l => l.foldl withF out) out else []) = (if (ls.drop (i + 1)).all sortedF = true then (ls.drop (i + 1)).foldl (fun out l => l.foldl withF out) (ls[i].foldl withF out) else []) := by
        rw [List.all_cons, hb, Bool.true_and, List.foldl_cons]
      rw [ev]
      refine Ev.step (f := fun k => (atriumref10_Sorted.f k ls[i]).bind fun t => if t = true then atriumref10_Merge.l1 k out ls (ls.length : Int) (i : Int) ls[i] (ls[i].length : Int) 0 else some []) (fun k => ?_) (Ev.bind hsr (Ev.congr (fun k => if_pos rfl) h3))
      simp only [atriumref10_Merge.l0]
      rw [if_pos (by omega), if_pos (by omega), if_pos (by omega), er]
    · have hb := Bool.eq_false_iff.mpr hb
      rw [hb] at hsr
      rw [List.all_cons, hb, Bool.false_and, if_neg (by decide)]
      refine Ev.step (f := fun k => (atriumref10_Sorted.f k ls[i]).bind fun t => if t = true then atriumref10_Merge.l1 k out ls (ls.length : Int) (i : Int) ls[i] (ls[i].length : Int) 0 else some []) (fun k => ?_) (Ev.bind hsr (Ev.congr (fun k => if_neg (by decide)) (Ev.now _)))
      simp only [atriumref10_Merge.l0]
      rw [if_pos (by omega), if_pos (by omega), if_pos (by omega), er]
theorem merge_ref (ls : List (List S24)) (hn : ls.length ≤ 3) (ht : ls.flatten.length < 2932031007402) : Ev (fun k => atriumref10_Merge.f k ls) (mergeF ls) := by
  have h := mg0 ls (by omega) ls.length 0 [] (Nat.zero_le _) rfl (by simpa using ht)
  rw [List.drop_zero] at h
  exact h
end Go.Proofs.Ytdpnhnfhobmopaa.P
namespace Go.Proofs.Ytdpnhnfhobmopaa.Pure
open Go.RowKit Go.Proofs.Ytdpnhnfhobmopaa.P Go.Proofs.YtdpnhnfhobmopaaW.PrintWords Go.Proofs.YtdpnhnfhobmopaaW.PrintLast Go.Proofs.YtdpnhnfhobmopaaW.PrintMore

theorem lists_call (A0 : Option Addr) (c0 : Nat) (l0 : List S24) (A1 : Option Addr) (c1 : Nat) (l1 : List S24) (A2 : Option Addr) (c2 : Nat) (l2 : List S24) (stop : Int) (w : World) (hr0 : Kd.C k24 w A0 l0.length l0) (hc0 : l0.length ≤ c0) (hr1 : Kd.C k24 w A1 l1.length l1) (hc1 : l1.length ≤ c1) (hr2 : Kd.C k24 w A2 l2.length l2) (hc2 : l2.length ≤ c2) (hl : l0.length + l1.length + l2.length ≤ 1048576) :
    Calls Try.prog 4 #[.agg #[.slice A0 l0.length c0, .slice A1 l1.length c1, .slice A2 l2.length c2], .int .i64 stop] w fun e w' => e = .returned (.bool true) ∧ Below w.heap.size w w' := by
  have z : [l0, l1, l2].flatten.length = l0.length + l1.length + l2.length := by simp; omega
  have hM := mergeF_len [l0, l1, l2]
  rw [z] at hM
  obtain ⟨K0, e0⟩ := same_ev l0 (by omega)
  obtain ⟨K1, e1⟩ := same_ev l1 (by omega)
  obtain ⟨K2, e2⟩ := same_ev l2 (by omega)
  obtain ⟨K3, e3⟩ := same_ev (mergeF [l0, l1, l2]) (by omega)
  obtain ⟨K4, e4⟩ := merge_ref [l0, l1, l2] (by simp) (by omega)
  have hm := merge_val [l0, l1, l2] (by simp) (by omega)
  have hme : merge_Merge.f [] = some [] := by
    have h := merge_val [] (by simp) (by simp)
    exact h.trans (by rfl)
  exact lists_walk (K0 + K1 + K2 + K3 + K4) A0 c0 l0 A1 c1 l1 A2 c2 l2 stop w hr0 hc0 hr1 hc1 hr2 hc2 (by omega) (by omega) (by omega) (mergeF [l0, l1, l2]) hm (e4 _ (by omega)) hme (by omega) (e0 _ (by omega)) (e1 _ (by omega)) (e2 _ (by omega)) (e3 _ (by omega))
end Go.Proofs.Ytdpnhnfhobmopaa.Pure
