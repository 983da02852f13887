/- Plain: behind a job a right version is right again, and there is less work. -/
import Derived.Test.YtdibolblgchpdaaRB3
import Derived.Test.YtdibolblgchpdaaRQ5
import Derived.Test.YtdibolblgchpdaaRB4
namespace Go.Proofs.Ytdibolblgchpdaa.P
open Go.RowKit Go.Proofs.YtdibolblgchpdaaW.PrintWords Go.Proofs.YtdibolblgchpdaaW.PrintLast Go.Proofs.YtdibolblgchpdaaW.PrintMore
set_option linter.unusedVariables false
set_option linter.unusedSimpArgs false
abbrev lessB (a b : ByteArray) : Prop := Op.bytesLess a.toList b.toList = true
theorem less_trans : ∀ a b c : List UInt8, Op.bytesLess a b = true → Op.bytesLess b c = true → Op.bytesLess a c = true
  | [], [], _, h, _ => by simp [Op.bytesLess] at h
  | [], _ :: _, [], _, h => by simp [Op.bytesLess] at h
  | [], _ :: _, _ :: _, _, _ => rfl
  | _ :: _, [], _, h, _ => by simp [Op.bytesLess] at h
  | _ :: _, _ :: _, [], _, h => by simp [Op.bytesLess] at h
  | x :: a, y :: b, z :: c, h1, h2 => by
    unfold Op.bytesLess at h1 h2 ⊢
    have ih := less_trans a b c
    simp only [Bool.or_eq_true, Bool.and_eq_true, decide_eq_true_eq, beq_iff_eq, UInt8.lt_iff_toNat_lt] at h1 h2 ⊢
    rcases h1 with h1 | ⟨rfl, h1⟩
    · rcases h2 with h2 | ⟨rfl, h2⟩
      · exact .inl (by omega)
      · exact .inl h1
    · rcases h2 with h2 | ⟨rfl, h2⟩
      · exact .inl h2
      · exact .inr ⟨rfl, ih h1 h2⟩
/-- Not before: what is at most. -/
abbrev leB (a b : ByteArray) : Prop := ¬ lessB b a
theorem less_tri (a b : List UInt8) : Op.bytesLess a b = true ∨ a = b ∨ Op.bytesLess b a = true := by
  by_cases h : Op.bytesLess a b = true
  · exact .inl h
  · by_cases h2 : Op.bytesLess b a = true
    · exact .inr (.inr h2)
    · have := bl_total a b
      rw [Bool.eq_false_iff.mpr h, Bool.eq_false_iff.mpr h2] at this
      exact .inr (.inl (by simpa using this))
theorem lt_of_lt_of_le {a b c : ByteArray} (h1 : lessB a b) (h2 : leB b c) : lessB a c := by
  rcases less_tri b.toList c.toList with h | h | h
  · exact less_trans _ _ _ h1 h
  · show Op.bytesLess _ _ = true; rw [← h]; exact h1
  · exact absurd h h2
theorem lt_of_le_of_lt {a b c : ByteArray} (h1 : leB a b) (h2 : lessB b c) : lessB a c := by
  rcases less_tri a.toList b.toList with h | h | h
  · exact less_trans _ _ _ h h2
  · show Op.bytesLess _ _ = true; rw [h]; exact h2
  · exact absurd h h1
theorem lt_irr (a : ByteArray) : ¬ lessB a a := less_irr _
theorem file_le {t : S44} (h : fileR t = true) : leB t.f3 t.f4 := fun h2 => by
  have := (fileR_facts h).2.2.2.2.2.2.2.2.2.2
  rw [show Op.bytesLess t.f4.toList t.f3.toList = true from h2] at this
  cases this
/-- One table stands ahead of another at its level. -/
def ahead (i : Nat) (a b : S44) : Prop := adjR i a b = true
theorem ahead_trans {i : Nat} {a b c : S44} (hb : fileR b = true) (h1 : ahead i a b) (h2 : ahead i b c) : ahead i a c := by
  unfold ahead adjR at *
  by_cases hi : i = 0
  · rw [if_pos hi] at *
    simp only [decide_eq_true_eq] at *
    omega
  · rw [if_neg hi] at *
    exact lt_of_lt_of_le h1 (fun h => lt_irr _ (lt_of_le_of_lt (file_le hb) (less_trans _ _ _ h2 h)))
theorem ord_pairs (i : Nat) : ∀ l : List S44, (∀ t ∈ l, fileR t = true) → ordF i l = true → l.Pairwise (ahead i)
  | [], _, _ => List.Pairwise.nil
  | [a], _, _ => List.pairwise_singleton _ _
  | a :: b :: l, hf, h => by
    have e : ordF i (a :: b :: l) = (adjR i a b && ordF i (b :: l)) := rfl
    rw [e, Bool.and_eq_true] at h
    have ih := ord_pairs i (b :: l) (fun t ht => hf t (List.mem_cons_of_mem _ ht)) h.2
    refine List.pairwise_cons.2 ⟨fun c hc => ?_, ih⟩
    rcases List.mem_cons.1 hc with rfl | hc
    · exact h.1
    · exact ahead_trans (hf b (by simp)) h.1 ((List.pairwise_cons.1 ih).1 c hc)
theorem pairs_ord (i : Nat) : ∀ l : List S44, l.Pairwise (ahead i) → ordF i l = true
  | [], _ => rfl
  | [a], _ => rfl
  | a :: b :: l, h => by
    have e : ordF i (a :: b :: l) = (adjR i a b && ordF i (b :: l)) := rfl
    obtain ⟨h1, h2⟩ := List.pairwise_cons.1 h
    rw [e, Bool.and_eq_true]
    exact ⟨h1 b (by simp), pairs_ord i (b :: l) h2⟩
theorem fresh_iff : ∀ (l : List S44) (s : List Int), fresh l s = true ↔ (∀ t ∈ l, fileR t = true) ∧ (nums l).Nodup ∧ ∀ x ∈ nums l, x ∉ s
  | [], s => by simp [fresh, nums]
  | t :: l, s => by
    have e : fresh (t :: l) s = (fileR t && !decide (t.f0 ∈ s) && fresh l (s ++ [t.f0])) := rfl
    rw [e, Bool.and_eq_true, Bool.and_eq_true, fresh_iff l]
    unfold nums
    simp only [List.map_cons, List.nodup_cons, List.mem_cons, List.mem_append, List.mem_map, Bool.not_eq_true', decide_eq_false_iff_not]
    constructor
    · rintro ⟨⟨h1, h2⟩, h3, h4, h5⟩
      refine ⟨fun u hu => hu.elim (fun e => e ▸ h1) (h3 u), ⟨?_, h4⟩, fun x hx => ?_⟩
      · rintro ⟨u, hu, hq⟩
        exact h5 _ ⟨u, hu, rfl⟩ (.inr (by simp [hq]))
      · rcases hx with rfl | ⟨u, hu, rfl⟩
        · exact h2
        · exact fun hs => h5 _ ⟨u, hu, rfl⟩ (.inl hs)
    · rintro ⟨h1, ⟨h2, h3⟩, h4⟩
      refine ⟨⟨h1 t (.inl rfl), h4 _ (.inl rfl)⟩, fun u hu => h1 u (.inr hu), h3, ?_⟩
      rintro x ⟨u, hu, rfl⟩ hx
      rcases hx with hx | hx
      · exact h4 _ (.inr ⟨u, hu, rfl⟩) hx
      · have hx : u.f0 = t.f0 := by simpa using hx
        exact h2 ⟨u, hu, hx⟩
end Go.Proofs.Ytdibolblgchpdaa.P
namespace Go.Proofs.Ytdibolblgchpdaa.P
open Go.RowKit Go.Proofs.YtdibolblgchpdaaW.PrintWords Go.Proofs.YtdibolblgchpdaaW.PrintLast Go.Proofs.YtdibolblgchpdaaW.PrintMore
set_option linter.unusedVariables false
set_option linter.unusedSimpArgs false
theorem freshL_to : ∀ (ls : List (List S44)) (i : Nat) (s : List Int), freshL ls i s = true → (∀ k, (h : k < ls.length) → ls[k].Pairwise (ahead (i + k))) ∧ (∀ l ∈ ls, ∀ t ∈ l, fileR t = true) ∧ (nums ls.flatten).Nodup ∧ ∀ x ∈ nums ls.flatten, x ∉ s
  | [], i, s, _ => ⟨fun k h => absurd h (Nat.not_lt_zero _), fun l h => (by cases h), by simp [nums], by simp [nums]⟩
  | l :: ls, i, s, h => by
    have e : freshL (l :: ls) i s = (ordF i l && fresh l s && freshL ls (i + 1) (s ++ nums l)) := rfl
    rw [e, Bool.and_eq_true, Bool.and_eq_true] at h
    obtain ⟨⟨h1, h2⟩, h3⟩ := h
    obtain ⟨f1, f2, f3⟩ := (fresh_iff l s).1 h2
    obtain ⟨g1, g2, g3, g4⟩ := freshL_to ls (i + 1) (s ++ nums l) h3
    refine ⟨fun k hk => ?_, fun m hm => ?_, ?_, ?_⟩
    · cases k with
      | zero => exact ord_pairs i l f1 h1
      | succ k =>
        have := g1 k (by simpa using hk)
        rw [show i + 1 + k = i + (k + 1) by omega] at this
        exact this
    · rcases List.mem_cons.1 hm with rfl | hm
      · exact f1
      · exact g2 m hm
    · have en : nums (l :: ls).flatten = nums l ++ nums ls.flatten := by simp [nums]
      rw [en, List.nodup_append]
      exact ⟨f2, g3, fun x hx y hy hxy => g4 y hy (by rw [← hxy]; exact List.mem_append_right _ hx)⟩
    · have en : nums (l :: ls).flatten = nums l ++ nums ls.flatten := by simp [nums]
      intro x hx
      rw [en] at hx
      rcases List.mem_append.1 hx with hx | hx
      · exact f3 x hx
      · exact fun hs => g4 x hx (List.mem_append_left _ hs)
theorem freshL_of : ∀ (ls : List (List S44)) (i : Nat) (s : List Int), (∀ k, (h : k < ls.length) → ls[k].Pairwise (ahead (i + k))) → (∀ l ∈ ls, ∀ t ∈ l, fileR t = true) → (nums ls.flatten).Nodup → (∀ x ∈ nums ls.flatten, x ∉ s) → freshL ls i s = true
  | [], i, s, _, _, _, _ => rfl
  | l :: ls, i, s, h1, h2, h3, h4 => by
    have e : freshL (l :: ls) i s = (ordF i l && fresh l s && freshL ls (i + 1) (s ++ nums l)) := rfl
    have en : nums (l :: ls).flatten = nums l ++ nums ls.flatten := by simp [nums]
    rw [en] at h3 h4
    rw [List.nodup_append] at h3
    rw [e, Bool.and_eq_true, Bool.and_eq_true]
    refine ⟨⟨pairs_ord i l (h1 0 (by simp)), (fresh_iff l s).2 ⟨h2 l (by simp), h3.1, fun x hx => h4 x (List.mem_append_left _ hx)⟩⟩, ?_⟩
    refine freshL_of ls (i + 1) (s ++ nums l) (fun k hk => ?_) (fun m hm => h2 m (List.mem_cons_of_mem _ hm)) h3.2.1 (fun x hx hs => ?_)
    · have := h1 (k + 1) (by simpa using hk)
      rw [show i + (k + 1) = i + 1 + k by omega] at this
      exact this
    · rcases List.mem_append.1 hs with hs | hs
      · exact h4 x (List.mem_append_right _ hx) hs
      · exact h3.2.2 x hs x hx rfl
/-- All tables of the seven levels. -/
def flat7 (L : Nat → List S44) : List S44 := ((List.range 7).map L).flatten
/-- What a right version's levels are. -/
structure Ok7 (L : Nat → List S44) : Prop where
  ord : ∀ k, k < 7 → (L k).Pairwise (ahead k)
  file : ∀ k, k < 7 → ∀ t ∈ L k, fileR t = true
  nod : (nums (flat7 L)).Nodup
  len : (flat7 L).length ≤ 1024
theorem trimN_nil (L : Nat → List S44) : ∀ n k, trimN L n ≤ k → k < n → L k = []
  | 0, k, _, h => absurd h (Nat.not_lt_zero _)
  | n + 1, k, h1, h2 => by
    unfold trimN at h1
    by_cases h0 : (L n).length = 0
    · rw [if_pos h0] at h1
      by_cases hk : k = n
      · rw [hk]; exact List.eq_nil_of_length_eq_zero h0
      · exact trimN_nil L n k h1 (by omega)
    · rw [if_neg h0] at h1
      omega
theorem trimN_last (L : Nat → List S44) : ∀ n, 0 < trimN L n → (L (trimN L n - 1)).length ≠ 0
  | 0, h => absurd h (Nat.not_lt_zero _)
  | n + 1, h => by
    unfold trimN at h ⊢
    by_cases h0 : (L n).length = 0
    · rw [if_pos h0] at h ⊢
      exact trimN_last L n h
    · rw [if_neg h0]
      exact h0
theorem resV_flat (L : Nat → List S44) : (resV L).flatten = flat7 L := by
  unfold flat7
  have h := congrArg List.flatten (List.take_append_drop (trimN L 7) ((List.range 7).map L))
  rw [List.flatten_append] at h
  have h2 : (((List.range 7).map L).drop (trimN L 7)).flatten = [] := by
    rw [List.flatten_eq_nil_iff]
    intro l hl
    obtain ⟨k, hk, rfl⟩ := List.mem_iff_getElem.1 hl
    rw [List.length_drop] at hk
    simp only [List.length_map, List.length_range] at hk
    rw [List.getElem_drop, List.getElem_map, List.getElem_range]
    exact trimN_nil L 7 _ (by omega) (by omega)
  rw [h2, List.append_nil] at h
  exact h
theorem resV_len (L : Nat → List S44) : (resV L).length = trimN L 7 := by
  unfold resV
  rw [List.length_take]
  have := trimN_le L 7
  simp
  omega
theorem resV_get (L : Nat → List S44) (k : Nat) (h : k < (resV L).length) : (resV L)[k] = L k := by
  simp only [resV, List.getElem_take, List.getElem_map, List.getElem_range]
theorem ok_res {L : Nat → List S44} (h : Ok7 L) : okF (resV L) = true := by
  have hl := resV_len L
  have h7 := trimN_le L 7
  unfold okF
  rw [allOk_iff _ _ _ (by simp), Bool.and_eq_true, Bool.and_eq_true]
  refine ⟨?_, freshL_of _ _ _ (fun k hk => ?_) (fun l hl2 t ht => ?_) ?_ (fun x _ h => by cases h), ?_⟩
  · unfold wrong0
    rw [Bool.not_eq_true', Bool.or_eq_false_iff]
    refine ⟨decide_eq_false (by omega), ?_⟩
    by_cases h0 : 0 < trimN L 7
    · have h1 := trimN_last L 7 h0
      have e : (resV L).getD ((resV L).length - 1) [] = L (trimN L 7 - 1) := by
        rw [List.getD_eq_getElem?_getD, List.getElem?_eq_getElem (by omega), Option.getD_some, resV_get]
        rw [hl]
      rw [e, decide_eq_false h1, Bool.and_false]
    · rw [decide_eq_false (by omega), Bool.false_and]
  · rw [resV_get, Nat.zero_add]
    exact h.ord k (by omega)
  · obtain ⟨k, hk, rfl⟩ := List.mem_iff_getElem.1 hl2
    rw [resV_get] at ht
    exact h.file k (by omega) t ht
  · rw [resV_flat]; exact h.nod
  · rw [resV_flat]
    simpa using h.len
theorem getD_flat {ls : List (List S44)} (h : ls.length ≤ 7) : flat7 (fun k => ls.getD k []) = ls.flatten := by
  unfold flat7
  have e : (List.range 7).map (fun k => ls.getD k []) = ls ++ List.replicate (7 - ls.length) [] := by
    apply List.ext_getElem
    · simp; omega
    · intro k h1 h2
      rw [List.getElem_map, List.getElem_range]
      by_cases hk : k < ls.length
      · rw [List.getElem_append_left hk, List.getD_eq_getElem?_getD, List.getElem?_eq_getElem hk]; rfl
      · rw [List.getElem_append_right (by omega), List.getElem_replicate, List.getD_eq_getElem?_getD, List.getElem?_eq_none (by omega)]; rfl
  rw [e, List.flatten_append]
  have : (List.replicate (7 - ls.length) ([] : List S44)).flatten = [] := by
    rw [List.flatten_eq_nil_iff]
    intro l hl
    exact List.eq_of_mem_replicate hl
  rw [this, List.append_nil]
theorem ok_parts {ls : List (List S44)} (h : okF ls = true) : Ok7 (fun k => ls.getD k []) := by
  obtain ⟨h1, h2, h3⟩ := okF_facts h
  have h7 := okF_len h
  obtain ⟨g1, g2, g3, g4⟩ := freshL_to ls 0 [] h2
  refine ⟨fun k hk => ?_, fun k hk t ht => ?_, by rw [getD_flat h7]; exact g3, by rw [getD_flat h7]; exact h3⟩
  · by_cases hl : k < ls.length
    · have := g1 k hl
      rw [Nat.zero_add] at this
      show (ls.getD k []).Pairwise _
      rw [List.getD_eq_getElem?_getD, List.getElem?_eq_getElem hl]
      exact this
    · show (ls.getD k []).Pairwise _
      rw [List.getD_eq_getElem?_getD, List.getElem?_eq_none (by omega)]
      exact List.Pairwise.nil
  · by_cases hl : k < ls.length
    · have ht : t ∈ ls.getD k [] := ht
      rw [List.getD_eq_getElem?_getD, List.getElem?_eq_getElem hl] at ht
      exact g2 _ (List.getElem_mem hl) t ht
    · have ht : t ∈ ls.getD k [] := ht
      rw [List.getD_eq_getElem?_getD, List.getElem?_eq_none (by omega)] at ht
      cases ht
end Go.Proofs.Ytdibolblgchpdaa.P
namespace Go.Proofs.Ytdibolblgchpdaa.P
open Go.RowKit Go.Proofs.YtdibolblgchpdaaW.PrintWords Go.Proofs.YtdibolblgchpdaaW.PrintLast Go.Proofs.YtdibolblgchpdaaW.PrintMore
set_option linter.unusedVariables false
set_option linter.unusedSimpArgs false
theorem lessN_take (a : ByteArray) : ∀ (l : List S44), ∀ r ∈ l.take (lessN a l), lessB r.f3 a
  | [], r, h => by simp [lessN] at h
  | t :: l, r, h => by
    unfold lessN at h
    by_cases hb : Op.bytesLess t.f3.toList a.toList = true
    · rw [if_pos hb, Nat.add_comm, List.take_succ_cons] at h
      rcases List.mem_cons.1 h with rfl | h
      · exact hb
      · exact lessN_take a l r h
    · rw [if_neg hb] at h
      simp at h
theorem lessN_drop (a : ByteArray) (i : Nat) (hi : i ≠ 0) : ∀ (l : List S44), (∀ t ∈ l, fileR t = true) → l.Pairwise (ahead i) → ∀ r ∈ l.drop (lessN a l), leB a r.f3
  | [], _, _, r, h => by simp at h
  | t :: l, hf, hp, r, h => by
    unfold lessN at h
    obtain ⟨p1, p2⟩ := List.pairwise_cons.1 hp
    by_cases hb : Op.bytesLess t.f3.toList a.toList = true
    · rw [if_pos hb, Nat.add_comm, List.drop_succ_cons] at h
      exact lessN_drop a i hi l (fun u hu => hf u (List.mem_cons_of_mem _ hu)) p2 r h
    · rw [if_neg hb, List.drop_zero] at h
      rcases List.mem_cons.1 h with rfl | h
      · exact hb
      · have h1 := p1 r h
        unfold ahead adjR at h1
        rw [if_neg hi] at h1
        intro h2
        exact file_le (hf t (by simp)) (less_trans _ _ _ h1 (by
          rcases less_tri r.f3.toList t.f3.toList with q | q | q
          · exact q
          · exact absurd (show Op.bytesLess t.f3.toList a.toList = true by rw [← q]; exact h2) hb
          · exact absurd (less_trans _ _ _ q h2) hb))
/-- The levels with the new table. -/
theorem perm_one {L : Nat → List S44} {i m : Nat} {t : S44} : ∀ (ks : List Nat), ks.Nodup → ((ks.map (lastV L i m t)).flatten).Perm (if i ∈ ks then t :: (ks.map L).flatten else (ks.map L).flatten)
  | [], _ => by simp
  | k :: ks, h => by
    obtain ⟨h1, h2⟩ := List.nodup_cons.1 h
    have ih := perm_one (L := L) (i := i) (m := m) (t := t) ks h2
    by_cases hk : k = i
    · subst hk
      rw [if_neg h1] at ih
      rw [if_pos (by simp)]
      simp only [List.map_cons, List.flatten_cons]
      have e : lastV L k m t k = (L k).take m ++ [t] ++ (L k).drop m := if_pos rfl
      rw [e]
      have e2 : ((L k).take m ++ [t] ++ (L k).drop m).Perm (t :: L k) := by
        have := (List.perm_middle (a := t) (l₁ := (L k).take m) (l₂ := (L k).drop m))
        rw [List.take_append_drop] at this
        simpa using this
      exact (e2.append ih).trans (by simp)
    · have e : lastV L i m t k = L k := if_neg hk
      simp only [List.map_cons, List.flatten_cons, e]
      by_cases hi : i ∈ ks
      · rw [if_pos hi] at ih
        rw [if_pos (List.mem_cons_of_mem _ hi)]
        exact (ih.append_left (L k)).trans List.perm_middle
      · rw [if_neg hi] at ih
        rw [if_neg (by simp [hi, Ne.symm hk])]
        exact ih.append_left (L k)
theorem flat_last {L : Nat → List S44} {i m : Nat} {t : S44} (hi : i < 7) : (flat7 (lastV L i m t)).Perm (t :: flat7 L) := by
  have := perm_one (L := L) (i := i) (m := m) (t := t) (List.range 7) List.nodup_range
  rw [if_pos (List.mem_range.2 hi)] at this
  exact this
theorem flat_sub {L K : Nat → List S44} (h : ∀ k, (K k).Sublist (L k)) : ∀ ks : List Nat, ((ks.map K).flatten).Sublist ((ks.map L).flatten)
  | [] => by simp
  | k :: ks => by
    simp only [List.map_cons, List.flatten_cons]
    exact (h k).append (flat_sub h ks)
theorem mem_flat7 {L : Nat → List S44} {t : S44} : t ∈ flat7 L ↔ ∃ k, k < 7 ∧ t ∈ L k := by
  unfold flat7
  rw [List.mem_flatten]
  constructor
  · rintro ⟨l, hl, ht⟩
    obtain ⟨k, hk, rfl⟩ := List.mem_map.1 hl
    exact ⟨k, List.mem_range.1 hk, ht⟩
  · rintro ⟨k, hk, ht⟩
    exact ⟨L k, List.mem_map.2 ⟨k, List.mem_range.2 hk, rfl⟩, ht⟩
theorem last_ok {L K : Nat → List S44} (h : Ok7 L) (hs : ∀ k, (K k).Sublist (L k)) {n : Nat} (hn : n + 1 < 7) {t : S44} (hf : fileR t = true)
    (hgap : ∀ r ∈ K (n + 1), lessB r.f4 t.f3 ∨ lessB t.f4 r.f3) (hnum : ∀ k, k < 7 → ∀ u ∈ L k, u.f0 < t.f0) (hlen : (flat7 K).length + 1 ≤ (flat7 L).length) :
    Ok7 (lastV K (n + 1) (lessN t.f3 (K (n + 1))) t) := by
  have hfK : ∀ k, k < 7 → ∀ u ∈ K k, fileR u = true := fun k hk u hu => h.file k hk u ((hs k).mem hu)
  have hoK : ∀ k, k < 7 → (K k).Pairwise (ahead k) := fun k hk => (h.ord k hk).sublist (hs k)
  have hp := flat_last (L := K) (i := n + 1) (m := lessN t.f3 (K (n + 1))) (t := t) hn
  have hm : ∀ k u, u ∈ lastV K (n + 1) (lessN t.f3 (K (n + 1))) t k → u = t ∨ u ∈ K k := by
    intro k u hu
    unfold lastV at hu
    split at hu
    · rename_i hk
      subst hk
      simp only [List.append_assoc, List.mem_append, List.mem_singleton] at hu
      rcases hu with hu | hu | hu
      · exact .inr (List.mem_of_mem_take hu)
      · exact .inl hu
      · exact .inr (List.mem_of_mem_drop hu)
    · exact .inr hu
  refine ⟨fun k hk => ?_, fun k hk u hu => ?_, ?_, ?_⟩
  · unfold lastV
    split
    · rename_i hkn
      subst hkn
      have hK := hoK (n + 1) hk
      have hT : ∀ r ∈ (K (n + 1)).take (lessN t.f3 (K (n + 1))), ahead (n + 1) r t := fun r hr => by
        have h1 := lessN_take _ _ r hr
        unfold ahead adjR
        rw [if_neg (by omega)]
        rcases hgap r (List.mem_of_mem_take hr) with q | q
        · exact q
        · exact absurd (less_trans _ _ _ q h1) (file_le hf)
      have hD : ∀ r ∈ (K (n + 1)).drop (lessN t.f3 (K (n + 1))), ahead (n + 1) t r := fun r hr => by
        have h1 := lessN_drop t.f3 (n + 1) (by omega) _ (hfK _ hk) hK r hr
        unfold ahead adjR
        rw [if_neg (by omega)]
        rcases hgap r (List.mem_of_mem_drop hr) with q | q
        · exact absurd (lt_of_le_of_lt (file_le (hfK _ hk r (List.mem_of_mem_drop hr))) q) h1
        · exact q
      rw [← List.take_append_drop (lessN t.f3 (K (n + 1))) (K (n + 1))] at hK
      obtain ⟨k1, k2, k3⟩ := List.pairwise_append.1 hK
      rw [List.append_assoc]
      refine List.pairwise_append.2 ⟨k1, List.pairwise_append.2 ⟨List.pairwise_singleton _ _, k2, fun x hx y hy => ?_⟩, fun x hx y hy => ?_⟩
      · rw [List.mem_singleton.1 hx]; exact hD y hy
      · rcases List.mem_append.1 hy with hy | hy
        · rw [List.mem_singleton.1 hy]; exact hT x hx
        · exact k3 x hx y hy
    · exact hoK k hk
  · rcases hm k u hu with rfl | hu
    · exact hf
    · exact hfK k hk u hu
  · have hq : (nums (flat7 (lastV K (n + 1) (lessN t.f3 (K (n + 1))) t))).Perm (t.f0 :: nums (flat7 K)) := hp.map _
    rw [hq.nodup_iff, List.nodup_cons]
    refine ⟨fun hx => ?_, h.nod.sublist ((flat_sub hs _).map _)⟩
    obtain ⟨u, hu, he⟩ := List.mem_map.1 hx
    obtain ⟨k, hk, hu⟩ := mem_flat7.1 hu
    have := hnum k hk u ((hs k).mem hu)
    omega
  · rw [hp.length_eq, List.length_cons]
    have := h.len
    omega
end Go.Proofs.Ytdibolblgchpdaa.P
namespace Go.Proofs.Ytdibolblgchpdaa.P
open Go.RowKit Go.Proofs.YtdibolblgchpdaaW.PrintWords Go.Proofs.YtdibolblgchpdaaW.PrintLast Go.Proofs.YtdibolblgchpdaaW.PrintMore
set_option linter.unusedVariables false
set_option linter.unusedSimpArgs false
def sumN (w : S44 → Nat) : List S44 → Nat
  | [] => 0
  | t :: l => w t + sumN w l
theorem sumN_append (w : S44 → Nat) : ∀ a b : List S44, sumN w (a ++ b) = sumN w a + sumN w b
  | [], b => by simp [sumN]
  | t :: a, b => by
    have := sumN_append w a b
    simp only [List.cons_append, sumN]
    omega
theorem sumN_split (w : S44 → Nat) (p : S44 → Bool) : ∀ l : List S44, sumN w l = sumN w (l.filter fun t => !p t) + sumN w (l.filter p)
  | [] => rfl
  | t :: l => by
    have := sumN_split w p l
    cases hp : p t <;> simp [List.filter_cons, hp, sumN] <;> omega
theorem sumN_le {v w : S44 → Nat} : ∀ {l : List S44}, (∀ t ∈ l, v t ≤ w t) → sumN v l ≤ sumN w l
  | [], _ => Nat.le_refl _
  | t :: l, h => by
    have h1 := h t (by simp)
    have := sumN_le (l := l) (fun u hu => h u (List.mem_cons_of_mem _ hu))
    simp only [sumN]
    omega
theorem sumN_mul (c : Nat) (w : S44 → Nat) : ∀ l : List S44, sumN (fun t => c * w t) l = c * sumN w l
  | [] => by simp [sumN]
  | t :: l => by
    have := sumN_mul c w l
    simp only [sumN]
    rw [this, Nat.mul_add]
theorem sumN_len : ∀ l : List S44, sumN (fun _ => 1) l = l.length
  | [] => rfl
  | t :: l => by have := sumN_len l; simp only [sumN, List.length_cons]; omega
theorem sumN_bd {w : S44 → Nat} {B : Nat} : ∀ {l : List S44}, (∀ t ∈ l, w t ≤ B) → sumN w l ≤ B * l.length
  | [], _ => by simp [sumN]
  | t :: l, h => by
    have h1 := h t (by simp)
    have := sumN_bd (l := l) (fun u hu => h u (List.mem_cons_of_mem _ hu))
    simp only [sumN, List.length_cons, Nat.mul_add, Nat.mul_one]
    omega
/-- A sum over levels. -/
def sumK (w : Nat → S44 → Nat) (L : Nat → List S44) : List Nat → Nat
  | [] => 0
  | k :: ks => sumN (w k) (L k) + sumK w L ks
theorem sumK_split (w : Nat → S44 → Nat) (p : Nat → S44 → Bool) (L : Nat → List S44) : ∀ ks, sumK w L ks = sumK w (fun k => (L k).filter fun t => !p k t) ks + sumK w (fun k => (L k).filter (p k)) ks
  | [] => rfl
  | k :: ks => by
    have h1 := sumN_split (w k) (p k) (L k)
    have h2 := sumK_split w p L ks
    simp only [sumK]
    omega
theorem sumK_last (w : Nat → S44 → Nat) (L : Nat → List S44) (i m : Nat) (t : S44) : ∀ ks : List Nat, ks.Nodup → sumK w (lastV L i m t) ks = sumK w L ks + if i ∈ ks then w i t else 0
  | [], _ => by simp [sumK]
  | k :: ks, h => by
    obtain ⟨h1, h2⟩ := List.nodup_cons.1 h
    have ih := sumK_last w L i m t ks h2
    by_cases hk : k = i
    · subst hk
      rw [if_neg h1] at ih
      rw [if_pos (by simp)]
      have e : lastV L k m t k = (L k).take m ++ [t] ++ (L k).drop m := if_pos rfl
      have e2 := sumN_append (w k) ((L k).take m) ((L k).drop m)
      rw [List.take_append_drop] at e2
      simp only [sumK, e, sumN_append, sumN]
      omega
    · have e : lastV L i m t k = L k := if_neg hk
      simp only [sumK, e]
      by_cases hi : i ∈ ks
      · rw [if_pos hi] at ih
        rw [if_pos (List.mem_cons_of_mem _ hi)]
        omega
      · rw [if_neg hi] at ih
        rw [if_neg (by simp [hi, Ne.symm hk])]
        omega
theorem sumK_le {v w : Nat → S44 → Nat} {L : Nat → List S44} : ∀ {ks : List Nat}, (∀ k ∈ ks, ∀ t ∈ L k, v k t ≤ w k t) → sumK v L ks ≤ sumK w L ks
  | [], _ => Nat.le_refl _
  | k :: ks, h => by
    have h1 := sumN_le (h k (by simp))
    have h2 := sumK_le (ks := ks) (fun j hj => h j (List.mem_cons_of_mem _ hj))
    simp only [sumK]
    omega
theorem sumK_lt {v w : Nat → S44 → Nat} {L : Nat → List S44} {n : Nat} : ∀ {ks : List Nat}, (∀ k ∈ ks, ∀ t ∈ L k, v k t ≤ w k t) → n ∈ ks → sumN (v n) (L n) < sumN (w n) (L n) → sumK v L ks < sumK w L ks
  | [], _, h, _ => by cases h
  | k :: ks, h, hn, hl => by
    have h1 := sumN_le (h k (by simp))
    have h2 := sumK_le (ks := ks) (fun j hj => h j (List.mem_cons_of_mem _ hj))
    simp only [sumK]
    rcases List.mem_cons.1 hn with rfl | hn
    · omega
    · have := sumK_lt (ks := ks) (fun j hj => h j (List.mem_cons_of_mem _ hj)) hn hl
      omega
theorem sumK_flat (w : S44 → Nat) (L : Nat → List S44) : ∀ ks, sumK (fun _ => w) L ks = sumN w ((ks.map L).flatten)
  | [] => rfl
  | k :: ks => by
    have := sumK_flat w L ks
    simp only [sumK, List.map_cons, List.flatten_cons, sumN_append]
    omega
theorem sumK_mul (c : Nat) (w : Nat → S44 → Nat) (L : Nat → List S44) : ∀ ks, sumK (fun k t => c * w k t) L ks = c * sumK w L ks
  | [] => by simp [sumK]
  | k :: ks => by
    have h1 := sumN_mul c (w k) (L k)
    have h2 := sumK_mul c w L ks
    simp only [sumK]
    rw [h1, h2, Nat.mul_add]
/-- What there may be to merge. -/
def wk (k : Nat) (t : S44) : Nat := t.f2.toNat * (6 - k)
theorem workL_eq (k : Nat) (hk : k ≤ 6) : ∀ (l : List S44) (a : Nat), (∀ t ∈ l, 1 ≤ t.f2 ∧ t.f2 ≤ 65536) → a + 393216 * l.length ≤ 4611686018427387904 → workL (k : Int) l (a : Int) = ((a + sumN (wk k) l : Nat) : Int)
  | [], a, _, _ => by simp [workL, sumN]
  | t :: l, a, h, hb => by
    have ht := h t (by simp)
    rw [List.length_cons] at hb
    have hw : wk k t ≤ 393216 := by
      unfold wk
      exact Nat.le_trans (Nat.mul_le_mul (show t.f2.toNat ≤ 65536 by omega) (show 6 - k ≤ 6 by omega)) (by decide)
    have e6 : wrap64 (6 - (k : Int)) = ((6 - k : Nat) : Int) := by unfold wrap64; omega
    have e1 : t.f2 * ((6 - k : Nat) : Int) = ((wk k t : Nat) : Int) := by
      unfold wk
      rw [Int.natCast_mul, Int.toNat_of_nonneg (by omega)]
    have ih := workL_eq k hk l (a + wk k t) (fun u hu => h u (List.mem_cons_of_mem _ hu)) (by omega)
    have e2 : workL (k : Int) (t :: l) (a : Int) = workL (k : Int) l (wrap64 ((a : Int) + wrap64 (t.f2 * wrap64 (6 - (k : Int))))) := rfl
    rw [e2, e6, e1, show wrap64 ((wk k t : Nat) : Int) = ((wk k t : Nat) : Int) by unfold wrap64; omega, show wrap64 ((a : Int) + ((wk k t : Nat) : Int)) = ((a + wk k t : Nat) : Int) by unfold wrap64; omega, ih]
    simp only [sumN]
    congr 1
    omega
end Go.Proofs.Ytdibolblgchpdaa.P
namespace Go.Proofs.Ytdibolblgchpdaa.P
open Go.RowKit Go.Proofs.YtdibolblgchpdaaW.PrintWords Go.Proofs.YtdibolblgchpdaaW.PrintLast Go.Proofs.YtdibolblgchpdaaW.PrintMore
set_option linter.unusedVariables false
set_option linter.unusedSimpArgs false
theorem workV_eq (L : Nat → List S44) (hf : ∀ k, k < 7 → ∀ t ∈ L k, 1 ≤ t.f2 ∧ t.f2 ≤ 65536) (hl : ∀ k, k < 7 → (L k).length ≤ 1024) : ∀ (n i a : Nat), i + n ≤ 7 → a + 402653184 * n ≤ 4611686018427387904 → workV ((List.range' i n).map L) i (a : Int) = ((a + sumK wk L (List.range' i n) : Nat) : Int)
  | 0, i, a, _, _ => by simp [workV, sumK]
  | n + 1, i, a, h, hb => by
    have h1 := hl i (by omega)
    have hb1 : sumN (wk i) (L i) ≤ 393216 * (L i).length := sumN_bd (fun t ht => by
      have := hf i (by omega) t ht
      unfold wk
      exact Nat.le_trans (Nat.mul_le_mul (show t.f2.toNat ≤ 65536 by omega) (show 6 - i ≤ 6 by omega)) (by decide))
    have e := workL_eq i (by omega) (L i) a (hf i (by omega)) (by omega)
    have ih := workV_eq L hf hl n (i + 1) (a + sumN (wk i) (L i)) (by omega) (by omega)
    rw [List.range'_succ]
    simp only [List.map_cons, sumK]
    have e2 : workV (L i :: (List.range' (i + 1) n).map L) i (a : Int) = workV ((List.range' (i + 1) n).map L) (i + 1) (workL (i : Int) (L i) (a : Int)) := rfl
    rw [e2, e, ih]
    congr 1
    omega
theorem sumK_append (w : Nat → S44 → Nat) (L : Nat → List S44) : ∀ a b : List Nat, sumK w L (a ++ b) = sumK w L a + sumK w L b
  | [], b => by simp [sumK]
  | k :: a, b => by
    have := sumK_append w L a b
    simp only [List.cons_append, sumK]
    omega
theorem sumK_zero (w : Nat → S44 → Nat) (L : Nat → List S44) : ∀ ks : List Nat, (∀ k ∈ ks, L k = []) → sumK w L ks = 0
  | [], _ => rfl
  | k :: ks, h => by
    have h1 := h k (by simp)
    have h2 := sumK_zero w L ks (fun j hj => h j (List.mem_cons_of_mem _ hj))
    simp only [sumK, h1, h2, sumN]
theorem resV_range (L : Nat → List S44) : resV L = (List.range (trimN L 7)).map L := by
  unfold resV
  rw [← List.map_take, List.take_range, Nat.min_eq_left (trimN_le L 7)]
theorem ok_f2 {L : Nat → List S44} (h : Ok7 L) : (∀ k, k < 7 → ∀ t ∈ L k, 1 ≤ t.f2 ∧ t.f2 ≤ 65536) ∧ ∀ k, k < 7 → (L k).length ≤ 1024 := by
  refine ⟨fun k hk t ht => ?_, fun k hk => ?_⟩
  · obtain ⟨_, _, _, _, h5, h6, _⟩ := fileR_facts (h.file k hk t ht)
    exact ⟨h5, h6⟩
  · have h1 := h.len
    have : (L k).length ≤ (flat7 L).length := by
      unfold flat7
      exact flat_mem_le _ _ (List.mem_map.2 ⟨k, List.mem_range.2 hk, rfl⟩)
    omega
theorem work_res {L : Nat → List S44} (h : Ok7 L) : workF (resV L) = ((sumK wk L (List.range 7) : Nat) : Int) := by
  unfold workF
  rw [if_pos (ok_res h), resV_range]
  have h7 := trimN_le L 7
  obtain ⟨f1, f2⟩ := ok_f2 h
  have e := workV_eq L f1 f2 (trimN L 7) 0 0 (by omega) (by omega)
  rw [← List.range_eq_range'] at e
  have e0 : ((0 : Nat) : Int) = 0 := rfl
  rw [e0] at e
  rw [e, Nat.zero_add]
  have es : List.range 7 = List.range (trimN L 7) ++ List.range' (trimN L 7) (7 - trimN L 7) := by
    rw [List.range_eq_range', List.range_eq_range']
    have := List.range'_append_1 (s := 0) (m := trimN L 7) (n := 7 - trimN L 7)
    rw [Nat.zero_add, show trimN L 7 + (7 - trimN L 7) = 7 by omega] at this
    exact this.symm
  rw [es, sumK_append, sumK_zero wk L (List.range' (trimN L 7) (7 - trimN L 7)) (fun k hk => by
    obtain ⟨h1, h2⟩ := List.mem_range'_1.1 hk
    exact trimN_nil L 7 k h1 (by omega)), Nat.add_zero]
theorem trim_of {ls : List (List S44)} (hlast : 0 < ls.length → (ls.getD (ls.length - 1) []).length ≠ 0) : ∀ n, ls.length ≤ n → trimN (fun k => ls.getD k []) n = ls.length
  | 0, h => by simp [trimN]; omega
  | n + 1, h => by
    unfold trimN
    by_cases hn : ls.length ≤ n
    · have e : ls.getD n [] = [] := by rw [List.getD_eq_getElem?_getD, List.getElem?_eq_none hn]; rfl
      rw [if_pos (by show (ls.getD n []).length = 0; rw [e]; rfl)]
      exact trim_of hlast n hn
    · have hl : ls.length = n + 1 := by omega
      have h1 := hlast (by omega)
      rw [show ls.length - 1 = n by omega] at h1
      rw [if_neg h1, hl]
theorem res_self {ls : List (List S44)} (h : okF ls = true) : resV (fun k => ls.getD k []) = ls := by
  have h7 := okF_len h
  have hw := (okF_facts h).1
  have ht := trim_of (ls := ls) (fun h0 => by
    unfold wrong0 at hw
    rw [Bool.or_eq_false_iff] at hw
    have h2 := hw.2
    rw [decide_eq_true h0, Bool.true_and] at h2
    exact of_decide_eq_false h2) 7 h7
  rw [resV_range, ht]
  apply List.ext_getElem
  · simp
  · intro k h1 h2
    rw [List.getElem_map, List.getElem_range, List.getD_eq_getElem?_getD, List.getElem?_eq_getElem h2]
    rfl
theorem work_self {ls : List (List S44)} (h : okF ls = true) : workF ls = ((sumK wk (fun k => ls.getD k []) (List.range 7) : Nat) : Int) := by
  have := work_res (ok_parts h)
  rw [res_self h] at this
  exact this
end Go.Proofs.Ytdibolblgchpdaa.P
namespace Go.Proofs.Ytdibolblgchpdaa.P
open Go.RowKit Go.Proofs.YtdibolblgchpdaaW.PrintWords Go.Proofs.YtdibolblgchpdaaW.PrintLast Go.Proofs.YtdibolblgchpdaaW.PrintMore
set_option linter.unusedVariables false
set_option linter.unusedSimpArgs false
structure Acc (l : List S44) (y : BAcc) : Prop where
  c : y.c = ((sumN (fun t => t.f2.toNat) l : Nat) : Int)
  s : y.s = ((sumN (fun t => t.f1.toNat) l : Nat) : Int)
  amem : l ≠ [] → ∃ g ∈ l, y.a = g.f3
  amin : ∀ g ∈ l, leB y.a g.f3
  bmem : l ≠ [] → ∃ g ∈ l, y.b = g.f4
  bmax : ∀ g ∈ l, leB g.f4 y.b
theorem acc_nil : Acc [] accZ := ⟨rfl, rfl, fun h => absurd rfl h, fun g h => (by cases h), fun h => absurd rfl h, fun g h => (by cases h)⟩
theorem sumN_pos {l : List S44} (h : ∀ t ∈ l, 1 ≤ t.f2) (hl : l ≠ []) : 0 < sumN (fun t => t.f2.toNat) l := by
  cases l with
  | nil => exact absurd rfl hl
  | cons t l => have := h t (by simp); simp only [sumN]; omega
theorem acc_snoc {l : List S44} {y : BAcc} (h : Acc l y) (hl : ∀ u ∈ l, 1 ≤ u.f2) {t : S44} (h2 : 1 ≤ t.f2) (h1 : 1 ≤ t.f1) : Acc (l ++ [t]) (accS y t) := by
  have hc0 : y.c = 0 ↔ l = [] := by
    constructor
    · intro e
      by_cases hn : l = []
      · exact hn
      · have := sumN_pos hl hn
        have := h.c
        omega
    · rintro rfl
      exact h.c
  refine ⟨?_, ?_, fun _ => ?_, fun g hg => ?_, fun _ => ?_, fun g hg => ?_⟩
  · show y.c + t.f2 = _
    rw [sumN_append, h.c]
    simp only [sumN]
    omega
  · show y.s + t.f1 = _
    rw [sumN_append, h.s]
    simp only [sumN]
    omega
  · show ∃ g ∈ l ++ [t], (if y.c = 0 ∨ Op.bytesLess t.f3.toList y.a.toList = true then t.f3 else y.a) = g.f3
    split
    · exact ⟨t, by simp, rfl⟩
    · rename_i hh
      obtain ⟨g, hg, e⟩ := h.amem (fun e => hh (.inl (hc0.2 e)))
      exact ⟨g, by simp [hg], e⟩
  · show leB (if y.c = 0 ∨ Op.bytesLess t.f3.toList y.a.toList = true then t.f3 else y.a) g.f3
    rcases List.mem_append.1 hg with hg | hg
    · split
      · rename_i hh
        rcases hh with hh | hh
        · rw [hc0.1 hh] at hg; cases hg
        · exact fun q => h.amin g hg (less_trans _ _ _ q hh)
      · exact h.amin g hg
    · rw [List.mem_singleton.1 hg]
      split
      · exact lt_irr _
      · rename_i hh
        exact fun q => hh (.inr q)
  · show ∃ g ∈ l ++ [t], (if y.c = 0 ∨ Op.bytesLess y.b.toList t.f4.toList = true then t.f4 else y.b) = g.f4
    split
    · exact ⟨t, by simp, rfl⟩
    · rename_i hh
      obtain ⟨g, hg, e⟩ := h.bmem (fun e => hh (.inl (hc0.2 e)))
      exact ⟨g, by simp [hg], e⟩
  · show leB g.f4 (if y.c = 0 ∨ Op.bytesLess y.b.toList t.f4.toList = true then t.f4 else y.b)
    rcases List.mem_append.1 hg with hg | hg
    · split
      · rename_i hh
        rcases hh with hh | hh
        · rw [hc0.1 hh] at hg; cases hg
        · exact fun q => h.bmax g hg (less_trans _ _ _ hh q)
      · exact h.bmax g hg
    · rw [List.mem_singleton.1 hg]
      split
      · exact lt_irr _
      · rename_i hh
        exact fun q => hh (.inr q)
theorem acc_inv : ∀ (l d : List S44) (y : BAcc), Acc d y → (∀ t ∈ d ++ l, 1 ≤ t.f2 ∧ 1 ≤ t.f1) → Acc (d ++ l) (l.foldl accS y)
  | [], d, y, h, _ => by simpa using h
  | t :: l, d, y, h, hf => by
    have ht := hf t (by simp)
    have h2 := acc_snoc h (fun u hu => (hf u (by simp [hu])).1) ht.1 ht.2
    have := acc_inv l (d ++ [t]) (accS y t) h2 (fun u hu => hf u (by simpa using hu))
    rw [List.foldl_cons]
    simpa using this
theorem getD_out {ls : List (List S44)} {k : Nat} (h : ls.length ≤ k) : ls.getD k [] = [] := by rw [List.getD_eq_getElem?_getD, List.getElem?_eq_none h]; rfl
theorem outA_end (ls : List (List S44)) (ins : List S63) : outA ls ins ls.length 0 = fun k => keptL ins k (ls.getD k []) := by
  funext k
  unfold outA
  by_cases hk : k < ls.length
  · rw [if_pos hk]
  · show _ = keptL ins k (ls.getD k [])
    rw [if_neg hk, getD_out (show ls.length ≤ k by omega)]
    split <;> simp [keptL]
theorem goneTo_range (ls : List (List S44)) (ins : List S63) : ∀ i, goneTo ls ins i = ((List.range i).map fun k => goneL ins k (ls.getD k [])).flatten
  | 0 => rfl
  | i + 1 => by
    show goneTo ls ins i ++ goneL ins i (ls.getD i []) = _
    rw [goneTo_range ls ins i, List.range_succ, List.map_append, List.flatten_append]
    simp
theorem goneTo_flat (ls : List (List S44)) (ins : List S63) (h7 : ls.length ≤ 7) : goneTo ls ins ls.length = flat7 (fun k => goneL ins k (ls.getD k [])) := by
  have h : ∀ d, goneTo ls ins (ls.length + d) = goneTo ls ins ls.length := by
    intro d
    induction d with
    | zero => rfl
    | succ d ih =>
      show goneTo ls ins (ls.length + d) ++ goneL ins (ls.length + d) (ls.getD (ls.length + d) []) = _
      rw [ih, getD_out (by omega)]
      simp [goneL]
  have := h (7 - ls.length)
  rw [show ls.length + (7 - ls.length) = 7 by omega] at this
  rw [← this, goneTo_range]
  rfl
theorem accA_end (ls : List (List S44)) (ins : List S63) : accA ls ins ls.length 0 = (goneTo ls ins ls.length).foldl accS accZ := by unfold accA goneL; simp
end Go.Proofs.Ytdibolblgchpdaa.P
namespace Go.Proofs.Ytdibolblgchpdaa.P
open Go.RowKit Go.Proofs.YtdibolblgchpdaaW.PrintWords Go.Proofs.YtdibolblgchpdaaW.PrintLast Go.Proofs.YtdibolblgchpdaaW.PrintMore
set_option linter.unusedVariables false
set_option linter.unusedSimpArgs false
theorem pw_or {R : S44 → S44 → Prop} : ∀ {l : List S44}, l.Pairwise R → ∀ a ∈ l, ∀ b ∈ l, a ≠ b → R a b ∨ R b a
  | [], _, a, h, _, _, _ => by cases h
  | x :: l, hp, a, ha, b, hb, hne => by
    obtain ⟨h1, h2⟩ := List.pairwise_cons.1 hp
    rcases List.mem_cons.1 ha with ha | ha <;> rcases List.mem_cons.1 hb with hb | hb
    · exact absurd (ha.trans hb.symm) hne
    · exact .inl (ha ▸ h1 b hb)
    · exact .inr (hb ▸ h1 a ha)
    · exact pw_or h2 a ha b hb hne
theorem uniq : ∀ {l : List S44}, (nums l).Nodup → ∀ a ∈ l, ∀ b ∈ l, a.f0 = b.f0 → a = b
  | [], _, a, h, _, _, _ => by cases h
  | x :: l, hn, a, ha, b, hb, e => by
    have hn : (x.f0 :: nums l).Nodup := hn
    obtain ⟨h1, h2⟩ := List.nodup_cons.1 hn
    rcases List.mem_cons.1 ha with ha | ha <;> rcases List.mem_cons.1 hb with hb | hb
    · exact ha.trans hb.symm
    · exact absurd (List.mem_map.2 ⟨b, hb, by rw [← e, ha]⟩) h1
    · exact absurd (List.mem_map.2 ⟨a, ha, by rw [e, hb]⟩) h1
    · exact uniq h2 a ha b hb e
theorem minN_mem (p : Int → Bool) (c : S44 → S44 → Int) (l : List S44) : ∀ j, 0 < j → j ≤ l.length → minN p c l j ∈ l
  | 0, h, _ => absurd h (Nat.lt_irrefl _)
  | j + 1, _, hl => by
    have e : minN p c l (j + 1) = if j = 0 then rd_T44 l 0 else if p (c (rd_T44 l (j : Int)) (minN p c l j)) = true then rd_T44 l (j : Int) else minN p c l j := rfl
    rw [e]
    split
    · have := rd44_getElem l 0 (by omega)
      rw [show ((0 : Nat) : Int) = 0 from rfl] at this
      rw [this]; exact List.getElem_mem _
    · split
      · rw [rd44_getElem l j (by omega)]; exact List.getElem_mem _
      · exact minN_mem p c l j (by omega) (by omega)
theorem minFst_le (l : List S44) : ∀ j, 0 < j → j ≤ l.length → ∀ i, (hi : i < j) → (hl : i < l.length) → leB (minN lt0 byFirst l j).f3 l[i].f3
  | 0, h, _, _, _, _ => absurd h (Nat.lt_irrefl _)
  | j + 1, _, hj, i, hi, hl => by
    by_cases h0 : j = 0
    · subst h0
      obtain rfl : i = 0 := by omega
      have e : minN lt0 byFirst l (0 + 1) = rd_T44 l 0 := rfl
      have := rd44_getElem l 0 (by omega)
      rw [show ((0 : Nat) : Int) = 0 from rfl] at this
      rw [e, this]
      exact lt_irr _
    · rw [minFst l j (by omega), rd44_getElem l j (by omega)]
      split
      · rename_i hb
        by_cases hij : i = j
        · subst hij; exact lt_irr _
        · exact fun q => minFst_le l j (by omega) (by omega) i (by omega) hl (less_trans _ _ _ q hb)
      · rename_i hb
        by_cases hij : i = j
        · subst hij; exact hb
        · exact minFst_le l j (by omega) (by omega) i (by omega) hl
theorem maxLst_le (l : List S44) : ∀ j, 0 < j → j ≤ l.length → ∀ i, (hi : i < j) → (hl : i < l.length) → leB l[i].f4 (minN gt0 byLast l j).f4
  | 0, h, _, _, _, _ => absurd h (Nat.lt_irrefl _)
  | j + 1, _, hj, i, hi, hl => by
    by_cases h0 : j = 0
    · subst h0
      obtain rfl : i = 0 := by omega
      have e : minN gt0 byLast l (0 + 1) = rd_T44 l 0 := rfl
      have := rd44_getElem l 0 (by omega)
      rw [show ((0 : Nat) : Int) = 0 from rfl] at this
      rw [e, this]
      exact lt_irr _
    · rw [maxLst l j (by omega), rd44_getElem l j (by omega)]
      split
      · rename_i hb
        by_cases hij : i = j
        · subst hij; exact lt_irr _
        · exact fun q => maxLst_le l j (by omega) (by omega) i (by omega) hl (less_trans _ _ _ hb q)
      · rename_i hb
        by_cases hij : i = j
        · subst hij; exact hb
        · exact maxLst_le l j (by omega) (by omega) i (by omega) hl
theorem spanA_le {l : List S44} {g : S44} (h : g ∈ l) : leB (spanA l) g.f3 := by
  obtain ⟨i, hi, rfl⟩ := List.mem_iff_getElem.1 h
  exact minFst_le l l.length (by omega) (Nat.le_refl _) i hi hi
theorem spanB_le {l : List S44} {g : S44} (h : g ∈ l) : leB g.f4 (spanB l) := by
  obtain ⟨i, hi, rfl⟩ := List.mem_iff_getElem.1 h
  exact maxLst_le l l.length (by omega) (Nat.le_refl _) i hi hi
/-- What is not met lies apart of what is chosen and of what is met. -/
theorem gap_of {i : Nat} (hi : i ≠ 0) {l ch : List S44} (hp : l.Pairwise (ahead i)) (hf : ∀ t ∈ l, fileR t = true) {r : S44} (hr : r ∈ l) (hk : keepB (spanA ch) (spanB ch) r = false) {y : BAcc}
    (ha : ∃ g, (g ∈ ch ∨ g ∈ meetF l (spanA ch) (spanB ch)) ∧ y.a = g.f3) (hb : ∃ g, (g ∈ ch ∨ g ∈ meetF l (spanA ch) (spanB ch)) ∧ y.b = g.f4) : lessB r.f4 y.a ∨ lessB y.b r.f3 := by
  have hk2 : outs (spanA ch) (spanB ch) r = true := by
    unfold keepB at hk
    simpa using hk
  have hne : ∀ g ∈ meetF l (spanA ch) (spanB ch), g ∈ l ∧ outs (spanA ch) (spanB ch) g = false ∧ g ≠ r := fun g hg => by
    obtain ⟨h1, h2⟩ := List.mem_filter.1 hg
    have h3 : outs (spanA ch) (spanB ch) g = false := by unfold keepB at h2; simpa using h2
    exact ⟨h1, h3, fun e => by rw [e, hk2] at h3; cases h3⟩
  unfold outs at hk2
  rw [Bool.or_eq_true] at hk2
  rcases hk2 with q | q
  · right
    obtain ⟨g, hg, e⟩ := hb
    rw [e]
    rcases hg with hg | hg
    · exact lt_of_le_of_lt (spanB_le hg) q
    · obtain ⟨g1, g2, g3⟩ := hne g hg
      rcases pw_or hp g g1 r hr g3 with h | h
      · unfold ahead adjR at h; rw [if_neg hi] at h; exact h
      · unfold ahead adjR at h; rw [if_neg hi] at h
        exfalso
        unfold outs at g2
        rw [Bool.or_eq_false_iff] at g2
        have : lessB (spanB ch) g.f3 := less_trans _ _ _ (lt_of_lt_of_le q (file_le (hf r hr))) h
        rw [show Op.bytesLess (spanB ch).toList g.f3.toList = true from this] at g2
        exact absurd g2.1 (by decide)
  · left
    obtain ⟨g, hg, e⟩ := ha
    rw [e]
    rcases hg with hg | hg
    · exact lt_of_lt_of_le q (spanA_le hg)
    · obtain ⟨g1, g2, g3⟩ := hne g hg
      rcases pw_or hp g g1 r hr g3 with h | h
      · unfold ahead adjR at h; rw [if_neg hi] at h
        exfalso
        unfold outs at g2
        rw [Bool.or_eq_false_iff] at g2
        have : lessB g.f4 (spanA ch) := less_trans _ _ _ (lt_of_lt_of_le h (file_le (hf r hr))) q
        rw [show Op.bytesLess g.f4.toList (spanA ch).toList = true from this] at g2
        exact absurd g2.2 (by decide)
      · unfold ahead adjR at h; rw [if_neg hi] at h; exact h
end Go.Proofs.Ytdibolblgchpdaa.P
namespace Go.Proofs.Ytdibolblgchpdaa.P
open Go.RowKit Go.Proofs.YtdibolblgchpdaaW.PrintWords Go.Proofs.YtdibolblgchpdaaW.PrintLast Go.Proofs.YtdibolblgchpdaaW.PrintMore
set_option linter.unusedVariables false
set_option linter.unusedSimpArgs false
theorem file_of {t : S44} (a1 : 1 ≤ t.f0) (a2 : t.f0 ≤ 2147483647) (a3 : 1 ≤ t.f1) (a4 : t.f1 ≤ 1048576) (a5 : 1 ≤ t.f2) (a6 : t.f2 ≤ 65536) (a7 : 1 ≤ t.f3.size) (a8 : t.f3.size ≤ 128) (a9 : 1 ≤ t.f4.size) (a10 : t.f4.size ≤ 128) (a11 : leB t.f3 t.f4) : fileR t = true := by
  have h := file_ref t
  unfold atriumref11_file.f at h
  rw [if_pos a1, if_pos a2, if_pos a3, if_pos a4, if_pos a5, if_pos a6, if_pos (by omega), if_pos (by omega), if_pos (by omega), if_pos (by omega)] at h
  rw [← Option.some.inj h, Bool.eq_false_iff.mpr a11]
  rfl
theorem gone_iff (n : Nat) (ch me : List S44) (k : Nat) (t : S44) : goneB (ats (n : Int) ch ++ ats ((n : Int) + 1) me) k t = true ↔ (k = n ∧ ∃ c ∈ ch, c.f0 = t.f0) ∨ (k = n + 1 ∧ ∃ c ∈ me, c.f0 = t.f0) := by
  unfold goneB ats
  rw [List.any_append, Bool.or_eq_true, List.any_eq_true, List.any_eq_true]
  constructor
  · rintro (⟨a, ha, h⟩ | ⟨a, ha, h⟩)
    · obtain ⟨c, hc, rfl⟩ := List.mem_map.1 ha
      simp only [Bool.and_eq_true, beq_iff_eq] at h
      exact .inl ⟨by omega, c, hc, h.2⟩
    · obtain ⟨c, hc, rfl⟩ := List.mem_map.1 ha
      simp only [Bool.and_eq_true, beq_iff_eq] at h
      exact .inr ⟨by omega, c, hc, h.2⟩
  · rintro (⟨rfl, c, hc, h⟩ | ⟨rfl, c, hc, h⟩)
    · exact .inl ⟨_, List.mem_map.2 ⟨c, hc, rfl⟩, by simp [h]⟩
    · exact .inr ⟨_, List.mem_map.2 ⟨c, hc, rfl⟩, by simp [h]⟩
theorem next_ok {ls : List (List S44)} {o0 o1 o2 o3 o4 o5 o6 : Int} (hok : okF ls = true) (hm : mayB o0 o1 o2 o3 o4 o5 o6 = true) {n : Nat} (hf : fullV (condF ls o4 o5 o6) = some n) {g number fewer : Int} (hg : ∀ l ∈ ls, ∀ t ∈ l, t.f0 ≤ g) (hn : g < number) (hn2 : number ≤ 2147483647) (hfe : 0 ≤ fewer) :
    goneTo ls (jobF ls n).f1 ls.length ≠ [] ∧ okF (nextV ls (jobF ls n).f1 n number fewer) = true ∧ workF (nextV ls (jobF ls n).f1 n number fewer) < workF ls ∧ ∀ l ∈ nextV ls (jobF ls n).f1 n number fewer, ∀ t ∈ l, t.f0 ≤ number := by
  have O := ok_parts hok
  have h7 := okF_len hok
  obtain ⟨n5, hcn⟩ := fullV_some hf
  obtain ⟨hpos, hnl⟩ := cond_pos hm hcn
  have hL0 : lvl ls (n : Int) = ls.getD n [] := by unfold lvl; rw [if_neg (by omega), Int.toNat_natCast]
  have hL1 : lvl ls ((n : Int) + 1) = ls.getD (n + 1) [] := by unfold lvl; rw [if_neg (by omega)]; rfl
  have hLp : 0 < (ls.getD n []).length := by have := hpos; unfold rd_L3 at this; rw [Int.toNat_natCast] at this; exact this
  obtain ⟨ch, hch⟩ : ∃ x, chosenF ls n = x := ⟨_, rfl⟩
  have hchm : (∀ c ∈ ch, c ∈ ls.getD n []) ∧ ch ≠ [] ∧ (n = 0 → ch = ls.getD 0 []) := by
    rw [← hch]
    unfold chosenF
    by_cases h0 : n = 0
    · subst h0
      rw [if_pos rfl, show lvl ls 0 = ls.getD 0 [] from hL0]
      exact ⟨fun c hc => hc, fun e => by rw [e] at hLp; exact absurd hLp (Nat.lt_irrefl 0), fun _ => rfl⟩
    · rw [if_neg h0, hL0]
      exact ⟨fun c hc => by rw [List.mem_singleton.1 hc]; exact minN_mem _ _ _ _ hLp (Nat.le_refl _), by simp, fun e => absurd e h0⟩
  obtain ⟨hc1, hc2, hc3⟩ := hchm
  have hme : metF ls n = meetF (ls.getD (n + 1) []) (spanA ch) (spanB ch) := by unfold metF; rw [hL1, hch]
  have hins : (jobF ls n).f1 = ats (n : Int) ch ++ ats ((n : Int) + 1) (meetF (ls.getD (n + 1) []) (spanA ch) (spanB ch)) := by
    show ats (n : Int) (chosenF ls n) ++ ats ((n : Int) + 1) (metF ls n) = _
    rw [hch, hme]
  rw [hins]
  obtain ⟨me, hmee⟩ : ∃ x, meetF (ls.getD (n + 1) []) (spanA ch) (spanB ch) = x := ⟨_, rfl⟩
  have hmm : ∀ s ∈ me, s ∈ ls.getD (n + 1) [] := fun s hs => by rw [← hmee] at hs; exact (List.mem_filter.1 hs).1
  obtain ⟨ins, hi⟩ : ∃ x, ats (n : Int) ch ++ ats ((n : Int) + 1) me = x := ⟨_, rfl⟩
  have hgi : ∀ k t, goneB ins k t = true ↔ (k = n ∧ ∃ c ∈ ch, c.f0 = t.f0) ∨ (k = n + 1 ∧ ∃ c ∈ me, c.f0 = t.f0) := fun k t => by rw [← hi]; exact gone_iff n ch me k t
  rw [hmee, hi]
  have hflat : ∀ k, k < 7 → ∀ t ∈ ls.getD k [], t ∈ flat7 (fun k => ls.getD k []) := fun k hk t ht => mem_flat7.2 ⟨k, hk, ht⟩
  have hgm : ∀ k, k < 7 → ∀ t ∈ ls.getD k [], goneB ins k t = true → (k = n ∧ t ∈ ch) ∨ (k = n + 1 ∧ t ∈ me) := by
    intro k hk t ht hg
    rcases (hgi k t).1 hg with ⟨rfl, c, hc, e⟩ | ⟨rfl, c, hc, e⟩
    · exact .inl ⟨rfl, by rw [← uniq O.nod c (hflat _ hk _ (hc1 c hc)) t (hflat _ hk t ht) e]; exact hc⟩
    · exact .inr ⟨rfl, by rw [← uniq O.nod c (hflat _ hk _ (hmm c hc)) t (hflat _ hk t ht) e]; exact hc⟩
  have hG := goneTo_flat ls ins h7
  obtain ⟨c0, hc0⟩ := List.exists_mem_of_ne_nil ch hc2
  have hc0g : c0 ∈ goneL ins n (ls.getD n []) := List.mem_filter.2 ⟨hc1 c0 hc0, (hgi n c0).2 (.inl ⟨rfl, c0, hc0, rfl⟩)⟩
  have hne : goneTo ls ins ls.length ≠ [] := by
    rw [hG]
    intro e
    have : c0 ∈ flat7 (fun k => goneL ins k (ls.getD k [])) := mem_flat7.2 ⟨n, by omega, hc0g⟩
    rw [e] at this
    cases this
  have hgt : ∀ t ∈ goneTo ls ins ls.length, fileR t = true ∧ (t ∈ ch ∨ t ∈ me) := fun t ht => by
    rw [hG] at ht
    obtain ⟨k, hk, ht⟩ := mem_flat7.1 ht
    obtain ⟨h1, h2⟩ := List.mem_filter.1 ht
    exact ⟨O.file k hk t h1, (hgm k hk t h1 h2).imp (fun h => h.2) (fun h => h.2)⟩
  have A : Acc (goneTo ls ins ls.length) (accA ls ins ls.length 0) := by
    rw [accA_end]
    have := acc_inv (goneTo ls ins ls.length) [] accZ acc_nil (fun t ht => by
      have := fileR_facts (hgt t (by simpa using ht)).1
      exact ⟨this.2.2.2.2.1, this.2.2.1⟩)
    simpa using this
  obtain ⟨ga, hga, ea⟩ := A.amem hne
  obtain ⟨gb, hgb, eb⟩ := A.bmem hne
  have hnum : ∀ k, k < 7 → ∀ u ∈ ls.getD k [], u.f0 < number := fun k hk u hu => by
    by_cases hl : k < ls.length
    · rw [List.getD_eq_getElem?_getD, List.getElem?_eq_getElem hl] at hu
      have := hg _ (List.getElem_mem hl) u hu
      omega
    · rw [getD_out (by omega)] at hu; cases hu
  obtain ⟨y, hy⟩ : ∃ y, accA ls ins ls.length 0 = y := ⟨_, rfl⟩
  rw [hy] at A ea eb
  obtain ⟨t, ht⟩ : ∃ t, tabF ls ins number fewer = t := ⟨_, rfl⟩
  have hfa := fileR_facts (hgt ga hga).1
  have hfb := fileR_facts (hgt gb hgb).1
  have hC : 0 < sumN (fun t => t.f2.toNat) (goneTo ls ins ls.length) := sumN_pos (fun u hu => (fileR_facts (hgt u hu).1).2.2.2.2.1) hne
  have hS : 0 < sumN (fun t => t.f1.toNat) (goneTo ls ins ls.length) := by
    have h1 : ∀ u ∈ goneTo ls ins ls.length, 1 ≤ u.f1 := fun u hu => (fileR_facts (hgt u hu).1).2.2.1
    generalize goneTo ls ins ls.length = G at hne h1
    cases G with
    | nil => exact absurd rfl hne
    | cons u G => have := h1 u (by simp); simp only [sumN]; omega
  have hyc := A.c
  have hys := A.s
  have he0 := Int.emod_nonneg fewer (show y.c ≠ 0 by omega)
  have he1 := Int.emod_lt_of_pos fewer (show 0 < y.c by omega)
  have ht0 : t.f0 = number := by rw [← ht]; rfl
  have ht1 : t.f1 = if y.s > 1048576 then 1048576 else y.s := by rw [← ht, ← hy]; rfl
  have ht2 : t.f2 = if y.c - fewer % y.c > 65536 then 65536 else y.c - fewer % y.c := by rw [← ht, ← hy]; rfl
  have ht3 : t.f3 = y.a := by rw [← ht, ← hy]; rfl
  have ht4 : t.f4 = y.b := by rw [← ht, ← hy]; rfl
  have hle : leB t.f3 t.f4 := by
    rw [ht3, ht4]
    intro q
    have h1 := lt_of_le_of_lt (A.bmax ga hga) q
    exact A.amin ga hga (lt_of_le_of_lt (file_le (hgt ga hga).1) h1)
  have b1 : 1 ≤ t.f1 ∧ t.f1 ≤ 1048576 := by rw [ht1]; split <;> omega
  have b2 : 1 ≤ t.f2 ∧ t.f2 ≤ 65536 ∧ t.f2 ≤ y.c := by rw [ht2]; split <;> omega
  have hp1 := (fileR_facts (hgt ga hga).1).1
  have htf : fileR t = true := file_of (by
    have : ga.f0 ≤ g := by
      rcases (hgt ga hga).2 with h | h
      · have := hnum n (by omega) ga (hc1 ga h); by_cases hl : n < ls.length
        · have h2 := hc1 ga h
          rw [List.getD_eq_getElem?_getD, List.getElem?_eq_getElem hl] at h2
          exact hg _ (List.getElem_mem hl) ga h2
        · omega
      · have h2 := hmm ga h
        by_cases hl : n + 1 < ls.length
        · rw [List.getD_eq_getElem?_getD, List.getElem?_eq_getElem hl] at h2
          exact hg _ (List.getElem_mem hl) ga h2
        · rw [getD_out (by omega)] at h2; cases h2
    omega) (by omega) b1.1 b1.2 b2.1 b2.2.1 (by rw [ht3, ea]; exact hfa.2.2.2.2.2.2.1) (by rw [ht3, ea]; exact hfa.2.2.2.2.2.2.2.1) (by rw [ht4, eb]; exact hfb.2.2.2.2.2.2.2.2.1) (by rw [ht4, eb]; exact hfb.2.2.2.2.2.2.2.2.2.1) hle
  have hsub : ∀ k, (keptL ins k (ls.getD k [])).Sublist (ls.getD k []) := fun k => List.filter_sublist
  have hsp : ∀ w : Nat → S44 → Nat, sumK w (fun k => ls.getD k []) (List.range 7) = sumK w (fun k => keptL ins k (ls.getD k [])) (List.range 7) + sumK w (fun k => goneL ins k (ls.getD k [])) (List.range 7) := fun w => sumK_split w (fun k => goneB ins k) (fun k => ls.getD k []) (List.range 7)
  have hlen : (flat7 (fun k => keptL ins k (ls.getD k []))).length + 1 ≤ (flat7 (fun k => ls.getD k [])).length := by
    have h := hsp (fun _ _ => 1)
    rw [sumK_flat (fun _ => 1), sumK_flat (fun _ => 1), sumK_flat (fun _ => 1), sumN_len, sumN_len, sumN_len] at h
    have h2 : 0 < (flat7 (fun k => goneL ins k (ls.getD k []))).length := by rw [← hG]; exact List.length_pos_iff.2 hne
    unfold flat7 at h2 ⊢
    omega
  have hok7 : Ok7 (lastV (fun k => keptL ins k (ls.getD k [])) (n + 1) (lessN t.f3 (keptL ins (n + 1) (ls.getD (n + 1) []))) t) := by
    refine last_ok O hsub (by omega) htf (fun r hr => ?_) (by rw [ht0]; exact hnum) hlen
    obtain ⟨h1, h2⟩ := List.mem_filter.1 hr
    rw [ht3, ht4]
    refine gap_of (i := n + 1) (ch := ch) (by omega) (O.ord (n + 1) (by omega)) (O.file (n + 1) (by omega)) h1 ?_ ?_ ?_
    · cases hk : keepB (spanA ch) (spanB ch) r with
      | false => rfl
      | true =>
        have hrm : r ∈ me := by rw [← hmee]; exact List.mem_filter.2 ⟨h1, hk⟩
        rw [(hgi (n + 1) r).2 (.inr ⟨rfl, r, hrm, rfl⟩)] at h2
        cases h2
    · exact ⟨ga, by have := (hgt ga hga).2; rw [← hmee] at this; exact this, ea⟩
    · exact ⟨gb, by have := (hgt gb hgb).2; rw [← hmee] at this; exact this, eb⟩
  have hnv : nextV ls ins n number fewer = resV (lastV (fun k => keptL ins k (ls.getD k [])) (n + 1) (lessN t.f3 (keptL ins (n + 1) (ls.getD (n + 1) []))) t) := by
    unfold nextV
    rw [outA_end, ht, hy, ht3]
  refine ⟨hne, by rw [hnv]; exact ok_res hok7, ?_, ?_⟩
  · rw [hnv, work_res hok7, work_self hok, sumK_last _ _ _ _ _ _ List.nodup_range, if_pos (List.mem_range.2 (by omega)), hsp wk]
    have hc : sumK (fun _ t => t.f2.toNat) (fun k => goneL ins k (ls.getD k [])) (List.range 7) = sumN (fun t => t.f2.toNat) (goneTo ls ins ls.length) := by rw [sumK_flat (fun t => t.f2.toNat), hG]; rfl
    have hlt : sumK (fun k t => (5 - n) * t.f2.toNat) (fun k => goneL ins k (ls.getD k [])) (List.range 7) < sumK wk (fun k => goneL ins k (ls.getD k [])) (List.range 7) := by
      refine sumK_lt (n := n) (fun k hk u hu => ?_) (List.mem_range.2 (by omega)) ?_
      · obtain ⟨h1, h2⟩ := List.mem_filter.1 hu
        have hkk : k = n ∨ k = n + 1 := (hgm k (List.mem_range.1 hk) u h1 h2).imp (fun h => h.1) (fun h => h.1)
        unfold wk
        rw [Nat.mul_comm]
        exact Nat.mul_le_mul_left _ (by omega)
      · have e : sumN (wk n) (goneL ins n (ls.getD n [])) = (6 - n) * sumN (fun t => t.f2.toNat) (goneL ins n (ls.getD n [])) := by
          rw [← sumN_mul]
          congr 1
          funext u
          exact Nat.mul_comm _ _
        rw [e, sumN_mul]
        have hp : 0 < sumN (fun t => t.f2.toNat) (goneL ins n (ls.getD n [])) := sumN_pos (fun u hu => (fileR_facts (O.file n (by omega) u (List.mem_filter.1 hu).1)).2.2.2.2.1) (fun e => by rw [e] at hc0g; cases hc0g)
        exact Nat.mul_lt_mul_of_pos_right (by omega) hp
    rw [sumK_mul, hc] at hlt
    have hw : wk (n + 1) t ≤ (5 - n) * sumN (fun t => t.f2.toNat) (goneTo ls ins ls.length) := by
      unfold wk
      rw [show 6 - (n + 1) = 5 - n by omega, Nat.mul_comm]
      exact Nat.mul_le_mul_left _ (by omega)
    omega
  · rw [hnv]
    intro l hl u hu
    obtain ⟨k, hk, rfl⟩ := List.mem_iff_getElem.1 hl
    rw [resV_get] at hu
    have hk7 : k < 7 := by rw [resV_len] at hk; have := trimN_le (lastV (fun k => keptL ins k (ls.getD k [])) (n + 1) (lessN t.f3 (keptL ins (n + 1) (ls.getD (n + 1) []))) t) 7; omega
    unfold lastV at hu
    have hK : ∀ j, j < 7 → ∀ v ∈ keptL ins j (ls.getD j []), v.f0 ≤ number := fun j hj v hv => by have := hnum j hj v ((hsub j).mem hv); omega
    split at hu
    · simp only [List.append_assoc, List.mem_append, List.mem_singleton] at hu
      rcases hu with hu | hu | hu
      · exact hK (n + 1) (by omega) u (List.mem_of_mem_take hu)
      · rw [hu, ht0]; omega
      · exact hK (n + 1) (by omega) u (List.mem_of_mem_drop hu)
    · exact hK k hk7 u hu
end Go.Proofs.Ytdibolblgchpdaa.P
