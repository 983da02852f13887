/- The contract of merge.Merge, in the form that the printed texts use. -/
import Derived.Test.YtdpnhnfhobmopaaH1f
namespace Go.Proofs.Ytdpnhnfhobmopaa.P
open Go.RowKit Go.Proofs.YtdpnhnfhobmopaaW.PrintWords Go.Proofs.YtdpnhnfhobmopaaW.PrintLast Go.Proofs.YtdpnhnfhobmopaaW.PrintMore
set_option linter.unusedVariables false
set_option linter.unusedSimpArgs false

theorem less_val (k : Nat) (a b : S24) : merge_Less.f (k + 3) a.f0 a.f1 a.f2 a.f3 b.f0 b.f1 b.f2 b.f3 = some (decide (cmpOf a b < 0)) := by
  unfold merge_Less.f
  rw [compare_eq, Option.bind_some]
theorem rd24_getElem (l : List S24) (i : Nat) (h : i < l.length) : rd_T24 l (i : Int) = l[i] := by
  simp only [rd_T24, Int.toNat_natCast, List.getD_eq_getElem?_getD, List.getElem?_eq_getElem h]
  rfl
theorem sorted_l0 (l : List S24) (hl : l.length ≤ 1152921504606846976) (d : Nat) : ∀ i : Nat, i + 1 ≤ l.length → l.length - (i + 1) = d →
    merge_Sorted.l0 (d + 4) l ((i + 1 : Nat) : Int) = some (sortedF (l.drop i)) := by
  induction d with
  | zero =>
    intro i hi hd
    have e : l.drop i = [l[i]'(by omega)] := by
      rw [List.drop_eq_getElem_cons (by omega), List.drop_eq_nil_of_le (by omega)]
    rw [e]
    simp only [merge_Sorted.l0]
    rw [if_neg (by omega)]
    rfl
  | succ d ih =>
    intro i hi hd
    have hi1 : i + 1 < l.length := by omega
    have w1 : wrap64 (((i + 1 : Nat) : Int) - 1) = (i : Int) := by unfold wrap64; omega
    have w2 : wrap64 (((i + 1 : Nat) : Int) + 1) = ((i + 1 + 1 : Nat) : Int) := by unfold wrap64; omega
    have c1 : ((i + 1 : Nat) : Int) < (l.length : Int) := by omega
    have c2 : (0 : Int) ≤ (i : Int) := by omega
    have c3 : (i : Int) < (l.length : Int) := by omega
    have c4 : (0 : Int) ≤ ((i + 1 : Nat) : Int) := by omega
    have e : l.drop i = l[i] :: l[i + 1] :: l.drop (i + 1 + 1) := by
      rw [List.drop_eq_getElem_cons (by omega), List.drop_eq_getElem_cons (by omega)]
    have e2 : l.drop (i + 1) = l[i + 1] :: l.drop (i + 1 + 1) := by rw [List.drop_eq_getElem_cons (by omega)]
    have hs : sortedF (l.drop i) = (decide (cmpOf l[i] l[i + 1] < 0) && sortedF (l.drop (i + 1))) := by rw [e, e2]; rfl
    rw [hs]
    simp only [merge_Sorted.l0]
    rw [w1, w2, if_pos c1, if_pos c2, if_pos c3, if_pos c4, rd24_getElem l i (by omega), rd24_getElem l (i + 1) hi1, less_val, Option.bind_some]
    by_cases hb : cmpOf l[i] l[i + 1] < 0
    · rw [decide_eq_true hb, if_pos rfl, Bool.true_and]
      exact ih (i + 1) (by omega) (by omega)
    · rw [decide_eq_false hb, if_neg (by decide), Bool.false_and]
theorem sorted_val (l : List S24) (hl : l.length ≤ 1152921504606846976) : merge_Sorted.f (l.length + 4) l = some (sortedF l) := by
  unfold merge_Sorted.f
  cases h : l with
  | nil =>
    simp only [merge_Sorted.l0, List.length_nil]
    rw [if_neg (by omega)]
    rfl
  | cons a t =>
    have h1 := sorted_l0 (a :: t) (by rw [← h]; exact hl) t.length 0 (by simp) (by simp)
    have h2 := merge_Sorted.mono_l
    have key : merge_Sorted.l0 (t.length + 4 + 1) (a :: t) 1 = some (sortedF (a :: t)) := by
      have := merge_Sorted.mono (a :: t) (t.length + 4) (sortedF (a :: t)) (by unfold merge_Sorted.f; exact h1)
      exact this
    exact key
theorem rdL5_getD (ls : List (List S24)) (i : Nat) : rd_L5 ls (i : Int) = ls.getD i [] := by simp only [rd_L5, Int.toNat_natCast]
theorem gath_mem (ls : List (List S24)) (j : Nat) : ∀ p, p ∈ gathTo ls j ↔ ∃ i : Nat, i < j ∧ ls.getD i [] ≠ [] ∧ p = (ls.getD i [], (i : Int)) := by
  induction j with
  | zero => intro p; simp [gathTo]
  | succ j ih =>
    intro p
    unfold gathTo
    rw [List.mem_append, ih, rdL5_getD]
    constructor
    · rintro (⟨i, hi, h1, h2⟩ | h)
      · exact ⟨i, by omega, h1, h2⟩
      · split at h
        · cases h
        · rename_i hn
          obtain rfl := List.mem_singleton.1 h
          exact ⟨j, by omega, fun e => hn (by rw [e]; rfl), rfl⟩
    · rintro ⟨i, hi, h1, rfl⟩
      by_cases e : i = j
      · subst e
        right
        rw [if_neg (fun e => h1 (List.eq_nil_of_length_eq_zero e))]
        simp
      · exact .inl ⟨i, by omega, h1, rfl⟩
theorem gath_nodup (ls : List (List S24)) (j : Nat) : ((gathTo ls j).map (·.2)).Nodup := by
  induction j with
  | zero => exact List.nodup_nil
  | succ j ih =>
    unfold gathTo
    rw [List.map_append]
    split
    · simpa using ih
    · refine List.nodup_append.2 ⟨ih, by simp, ?_⟩
      intro a ha b hb
      obtain ⟨p, hp, rfl⟩ := List.mem_map.1 ha
      obtain ⟨i, hi, _, rfl⟩ := (gath_mem ls j p).1 hp
      simp at hb
      subst hb
      show (i : Int) ≠ (j : Int)
      omega
def totL (ls : List (List S24)) : Nat := ((gathTo ls ls.length).map fun p => p.1.length).sum
theorem tot_key (hs : List Hd) : tot hs = ((hs.map Hd.key).map fun p => p.1.length).sum := by unfold tot; rw [List.map_map]; rfl
theorem mi_steps (ls : List (List S24)) (hall : ∀ i, i < ls.length → Strict (ls.getD i [])) : Steps (MI ls) where
  len3 := fun h => h.len3
  pos := fun h => h.pos
  room := fun h => by have := h.room; omega
  zero := fun {hs out} h => by
    cases hs with
    | nil => rfl
    | cons a t =>
      have h1 := h.cnt
      have h2 := h.pos a (by simp)
      unfold tot at h1
      simp only [List.map_cons, List.sum_cons] at h1
      omega
  pop := fun {k h0 rest out} h hl ys hp hm => by
    have hd : h0.l.drop 1 = [] := List.drop_eq_nil_of_le (by omega)
    have hn := h.nodup
    rw [List.map_cons, List.nodup_cons] at hn
    have hc := h.cnt
    have hlen := h.len3
    refine mi_step hall h ys ?_ (fun g hg => h.pos g (List.mem_cons_of_mem _ (hp.mem_iff.1 hg))) hm ?_ ?_ (fun g hg => .inl (hp.mem_iff.1 hg)) (fun g hg => hp.mem_iff.2 hg) (fun e => absurd hd e)
    · rw [hp.length_eq]; simp at hlen; omega
    · rw [tot_perm hp]; unfold tot at hc ⊢; simp at hc; omega
    · exact ((hp.map _).nodup_iff).2 hn.2
  fix := fun {k h0 rest out} h hl A c ys hp hm => by
    have hn := h.nodup
    have hc := h.cnt
    have hlen := h.len3
    have hdl : (h0.l.drop 1).length = h0.l.length - 1 := List.length_drop
    refine mi_step hall h ys ?_ ?_ hm ?_ ?_ ?_ (fun g hg => hp.mem_iff.2 (List.mem_cons_of_mem _ hg)) (fun _ => ⟨_, hp.mem_iff.2 (List.mem_cons_self ..), rfl⟩)
    · rw [hp.length_eq]; simpa using hlen
    · intro g hg
      rcases List.mem_cons.1 (hp.mem_iff.1 hg) with rfl | hg
      · show 0 < (h0.l.drop 1).length; omega
      · exact h.pos g (List.mem_cons_of_mem _ hg)
    · rw [tot_perm hp]
      unfold tot at hc ⊢
      simp only [List.map_cons, List.sum_cons] at hc ⊢
      omega
    · exact ((hp.map _).nodup_iff).2 (by simpa using hn)
    · intro g hg
      rcases List.mem_cons.1 (hp.mem_iff.1 hg) with rfl | hg
      · exact .inr ⟨rfl, rfl⟩
      · exact .inl hg
theorem mi_start (ls : List (List S24)) (h3 : ls.length ≤ 3) (ht : totL ls < 2932031007402) (hs ys : List Hd) (hk : hs.map Hd.key = gathTo ls ls.length) (hp : ys.Perm hs) (hm : MinRoot ys) : MI ls (totL ls) ys [] := by
  have hmem : ∀ h ∈ ys, ∃ i : Nat, i < ls.length ∧ ls.getD i [] ≠ [] ∧ h.l = ls.getD i [] ∧ h.k = i := by
    intro h hh
    have h1 : h.key ∈ gathTo ls ls.length := by rw [← hk]; exact List.mem_map_of_mem (hp.mem_iff.1 hh)
    obtain ⟨i, hi, hne, he⟩ := (gath_mem ls ls.length h.key).1 h1
    exact ⟨i, hi, hne, congrArg Prod.fst he, congrArg Prod.snd he⟩
  have htot : tot ys = totL ls := by rw [tot_perm hp, tot_key, hk]; rfl
  refine ⟨?_, ?_, hm, htot, ?_, by rw [htot]; simpa using ht, List.Pairwise.nil, fun _ => [], fun i => ls.getD i [], fun i => rfl, ?_, ?_, ?_, ?_, ?_, ?_⟩
  · have h1 := congrArg List.length hk
    have h2 := gathTo_length ls ls.length
    rw [List.length_map] at h1
    rw [hp.length_eq]
    omega
  · intro h hh
    obtain ⟨i, _, hne, hl, _⟩ := hmem h hh
    rw [hl]
    exact List.length_pos_iff.2 hne
  · have h1 := gath_nodup ls ls.length
    rw [← hk, List.map_map] at h1
    exact ((hp.map _).nodup_iff).2 h1
  · intro h hh
    obtain ⟨i, hi, _, hl, hkk⟩ := hmem h hh
    exact ⟨i, hi, hkk, hl⟩
  · intro i hi hne
    have h1 : (ls.getD i [], (i : Int)) ∈ hs.map Hd.key := by rw [hk]; exact (gath_mem ls ls.length _).2 ⟨i, hi, hne, rfl⟩
    obtain ⟨h, hh, he⟩ := List.mem_map.1 h1
    exact ⟨h, hp.mem_iff.2 hh, congrArg Prod.snd he⟩
  · intro x hx; cases hx
  · intro i hi x hx; cases hx
  · intro i hi x hx; cases hx
  · intro z hz; cases hz
theorem mi_end {ls : List (List S24)} {k : Nat} {out : List S24} (h : MI ls k [] out) : IsMerge ls out := by
  obtain ⟨P, R, hsp, hin, hex, ha, hb, hc, hd⟩ := h.split
  have hR : ∀ i, i < ls.length → R i = [] := by
    intro i hi
    by_cases e : R i = []
    · exact e
    · obtain ⟨g, hg, _⟩ := hex i hi e; cases hg
  have hP : ∀ i, i < ls.length → ls.getD i [] = P i := fun i hi => by rw [hsp, hR i hi, List.append_nil]
  refine ⟨h.srt, fun x => ⟨fun hx => ?_, ?_⟩⟩
  · obtain ⟨i, hi, hxP, hf⟩ := ha x hx
    exact ⟨i, hi, by rw [hP i hi]; exact hxP, hf⟩
  · rintro ⟨i, hi, hx, hf⟩
    exact hb i hi x (by rw [← hP i hi]; exact hx) hf
def merge_Merge.f (l0 : List (List S24)) : Option (List S24) := if l0.length ≤ 3 ∧ totL l0 < 2932031007402 ∧ l0.all (fun l => decide (l.length ≤ 1152921504606846976)) = true then some (mergeF l0) else none
theorem merge_Merge.calls (A0 : Option Addr) (c0 : Nat) (l0 : List (List S24)) (r : List S24) (w : World) (hr0 : Kd.C (Kd.slice 24 k24) w A0 l0.length l0) (hc0 : l0.length ≤ c0) (h : merge_Merge.f l0 = some r) :
    Calls Try.prog 17 #[.slice A0 l0.length c0] w fun e w' => ∃ v0_ : Value, e = .returned v0_ ∧ Kd.R k24 24 w' w.heap.size (fun _ => True) v0_ r ∧ Below w.heap.size w w' := by
  unfold merge_Merge.f at h
  by_cases hc : l0.length ≤ 3 ∧ totL l0 < 2932031007402 ∧ l0.all (fun l => decide (l.length ≤ 1152921504606846976)) = true
  rotate_left
  · rw [if_neg hc] at h; cases h
  rw [if_pos hc] at h
  obtain rfl := Option.some.inj h
  obtain ⟨h3, ht, hl⟩ := hc
  by_cases hall : ∀ i, i < l0.length → Strict (l0.getD i [])
  · refine (merge_core A0 c0 l0 w hr0 hc0 h3 sortedF (fun l hl' => ⟨l.length + 4, sorted_val l (of_decide_eq_true (List.all_eq_true.1 hl l hl'))⟩) (MI l0) (mi_steps l0 hall) (totL l0) (fun _ hs ys hk hp hm => mi_start l0 h3 ht hs ys hk hp hm)).mono ?_
    rintro e w' ⟨v, r, rfl, hr, hR, hb⟩
    refine ⟨v, rfl, ?_, hb⟩
    have hstr : ∀ l ∈ l0, Strict l := by
      intro l hl'
      obtain ⟨i, hi, rfl⟩ := List.mem_iff_getElem.1 hl'
      have := hall i hi
      rw [List.getD_eq_getElem?_getD, List.getElem?_eq_getElem hi] at this
      exact this
    have hsa : l0.all sortedF = true := List.all_eq_true.2 (fun l hl' => (sortedF_iff l).2 (hstr l hl'))
    have e : r = mergeF l0 := by
      unfold mergeF
      rw [if_pos hsa]
      rcases hr with ⟨⟨l, hl', hf⟩, _⟩ | ⟨_, k, hk⟩
      · rw [(sortedF_iff l).2 (hstr l hl')] at hf; cases hf
      · exact (mi_end hk).unique (mergeL_is l0 hstr)
    rw [← e]
    exact hR
  · obtain ⟨i, hi, hni⟩ : ∃ i, i < l0.length ∧ ¬ Strict (l0.getD i []) := by
      apply Classical.byContradiction
      intro hx
      exact hall (fun i hi => Classical.byContradiction fun hn => hx ⟨i, hi, hn⟩)
    have hgi : l0.getD i [] = l0[i] := by rw [List.getD_eq_getElem?_getD, List.getElem?_eq_getElem hi]; rfl
    rw [hgi] at hni
    have hns : sortedF l0[i] = false := Bool.eq_false_iff.mpr (fun h => hni ((sortedF_iff _).1 h))
    refine (merge_core A0 c0 l0 w hr0 hc0 h3 sortedF (fun l hl' => ⟨l.length + 4, sorted_val l (of_decide_eq_true (List.all_eq_true.1 hl l hl'))⟩) (fun _ hs out => hs.length ≤ 3 ∧ (∀ h ∈ hs, 0 < h.l.length) ∧ False) ⟨fun h => h.2.2.elim, fun h => h.2.2.elim, fun h => h.2.2.elim, fun h => h.2.2.elim, fun h => h.2.2.elim, fun h => h.2.2.elim⟩ 0 (fun hA => by have := hA _ (List.getElem_mem hi); rw [hns] at this; cases this)).mono ?_
    · rintro e w' ⟨v, r, rfl, hr, hR, hb⟩
      refine ⟨v, rfl, ?_, hb⟩
      have hsa : ¬ l0.all sortedF = true := fun h => by rw [List.all_eq_true.1 h _ (List.getElem_mem hi)] at hns; cases hns
      have e : r = mergeF l0 := by
        unfold mergeF
        rw [if_neg hsa]
        rcases hr with ⟨_, hr⟩ | ⟨hall', _⟩
        · exact hr
        · rw [hall' _ (List.getElem_mem hi)] at hns; cases hns
      rw [← e]
      exact hR
end Go.Proofs.Ytdpnhnfhobmopaa.P
