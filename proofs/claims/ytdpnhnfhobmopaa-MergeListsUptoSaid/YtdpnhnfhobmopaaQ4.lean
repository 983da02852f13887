/- Merging, in plain mathematics: in one go or one behind the other. -/
import Derived.Test.YtdpnhnfhobmopaaQ1
namespace Go.Proofs.Ytdpnhnfhobmopaa.P
open Go.RowKit Go.Proofs.YtdpnhnfhobmopaaW.PrintWords Go.Proofs.YtdpnhnfhobmopaaW.PrintLast Go.Proofs.YtdpnhnfhobmopaaW.PrintMore
set_option linter.unusedVariables false
set_option linter.unusedSimpArgs false

theorem withF_len (c : S24) : ∀ l : List S24, (withF l c).length ≤ l.length + 1
  | [] => by simp [withF]
  | x :: l => by
    have := withF_len c l
    unfold withF
    split
    · simp only [List.length_cons]; omega
    · split <;> simp
theorem fold_len : ∀ (s out : List S24), (s.foldl withF out).length ≤ out.length + s.length
  | [], out => by simp
  | c :: s, out => by
    have h1 := fold_len s (withF out c)
    have h2 := withF_len c out
    rw [List.foldl_cons, List.length_cons]
    omega
theorem mergeL_len (ls : List (List S24)) : (mergeL ls).length ≤ ls.flatten.length := by
  unfold mergeL
  rw [fold_lists]
  have := fold_len ls.flatten []
  simpa using this
theorem mergeF_len (ls : List (List S24)) : (mergeF ls).length ≤ ls.flatten.length := by
  unfold mergeF
  split
  · exact mergeL_len ls
  · simp
theorem tot_to (ls : List (List S24)) : ∀ j, j ≤ ls.length → ((gathTo ls j).map fun p => p.1.length).sum = ((ls.take j).flatten).length := by
  intro j
  induction j with
  | zero => intro _; rfl
  | succ j ih =>
    intro hj
    have hlt : j < ls.length := by omega
    unfold gathTo
    rw [List.map_append, List.sum_append, ih (by omega), List.take_succ_eq_append_getElem hlt, List.flatten_append, List.length_append, List.flatten_cons, List.flatten_nil, List.append_nil]
    congr 1
    have e : rd_L5 ls (j : Int) = ls[j] := by rw [rdL5_getD, List.getD_eq_getElem?_getD, List.getElem?_eq_getElem hlt]; rfl
    rw [e]
    split
    · rename_i h; rw [h]; rfl
    · simp
theorem totL_eq (ls : List (List S24)) : totL ls = ls.flatten.length := by
  unfold totL
  rw [tot_to ls ls.length (Nat.le_refl _), List.take_length]
theorem merge_val (ls : List (List S24)) (h3 : ls.length ≤ 3) (ht : ls.flatten.length < 2932031007402) : merge_Merge.f ls = some (mergeF ls) := by
  have hall : ls.all (fun l => decide (l.length ≤ 1152921504606846976)) = true := List.all_eq_true.2 (fun l hl => by
    have : l.length ≤ ls.flatten.length := (List.sublist_flatten_of_mem hl).length_le
    exact decide_eq_true (by omega))
  unfold merge_Merge.f
  rw [if_pos ⟨h3, by rw [totL_eq]; exact ht, hall⟩]
theorem mergeF_all {ls : List (List S24)} (h : ∀ l ∈ ls, Strict l) : mergeF ls = mergeL ls := by
  unfold mergeF
  rw [if_pos (List.all_eq_true.2 (fun l hl => (sortedF_iff l).2 (h l hl)))]
theorem mergeL_mem {ls : List (List S24)} (h : ∀ l ∈ ls, Strict l) (x : S24) : x ∈ mergeL ls ↔ FirstIn ls.flatten x := by
  rw [firstIn_flatten ls h]
  exact (mergeL_is ls h).2 x
theorem mergeL_strict {ls : List (List S24)} (h : ∀ l ∈ ls, Strict l) : Strict (mergeL ls) := (mergeL_is ls h).1
theorem cmp_zero_trans {a b c : S24} (h1 : cmpOf a b = 0) (h2 : cmpOf b c = 0) : cmpOf a c = 0 := by
  have t1 := cmp_trans (a := a) (b := b) (c := c) (by omega) (by omega)
  have s1 := cmp_swap a b
  have s2 := cmp_swap b c
  have s3 := cmp_swap a c
  have t2 := cmp_trans (a := c) (b := b) (c := a) (by omega) (by omega)
  omega
theorem covers : ∀ (s : List S24) (y : S24), y ∈ s → ∃ z, FirstIn s z ∧ cmpOf z y = 0
  | c :: s, y, hy => by
    by_cases h : cmpOf c y = 0
    · exact ⟨c, (firstIn_cons c s c).2 (.inl rfl), h⟩
    · have hys : y ∈ s := by
        rcases List.mem_cons.1 hy with rfl | hy
        · exact absurd (cmp_self y) h
        · exact hy
      obtain ⟨z, hz, he⟩ := covers s y hys
      refine ⟨z, (firstIn_cons c s z).2 (.inr ⟨fun e => h (cmp_zero_trans e he), hz⟩), he⟩
theorem firstIn_mem : ∀ (s : List S24) (x : S24), FirstIn s x → x ∈ s
  | [], x, h => absurd h (firstIn_nil x)
  | c :: s, x, h => by
    rcases (firstIn_cons c s x).1 h with rfl | ⟨_, h⟩
    · simp
    · exact List.mem_cons_of_mem _ (firstIn_mem s x h)
theorem ne_iff {s s' : List S24} (h : ∀ x, FirstIn s x ↔ FirstIn s' x) (x : S24) : (∀ y ∈ s, cmpOf y x ≠ 0) → ∀ y ∈ s', cmpOf y x ≠ 0 := by
  intro hs y hy e
  obtain ⟨z, hz, he⟩ := covers s' y hy
  exact hs z (firstIn_mem s z ((h z).2 hz)) (cmp_zero_trans he e)
theorem firstIn_left {s s' : List S24} (h : ∀ x, FirstIn s x ↔ FirstIn s' x) (t : List S24) (x : S24) : FirstIn (s ++ t) x ↔ FirstIn (s' ++ t) x := by
  rw [firstIn_append, firstIn_append, h x]
  constructor
  · rintro (h1 | ⟨h1, h2⟩)
    · exact .inl h1
    · exact .inr ⟨ne_iff h x h1, h2⟩
  · rintro (h1 | ⟨h1, h2⟩)
    · exact .inl h1
    · exact .inr ⟨ne_iff (fun x => (h x).symm) x h1, h2⟩
theorem firstIn_right {s s' : List S24} (h : ∀ x, FirstIn s x ↔ FirstIn s' x) (t : List S24) (x : S24) : FirstIn (t ++ s) x ↔ FirstIn (t ++ s') x := by
  rw [firstIn_append, firstIn_append, h x]
theorem firstIn_merge {ls : List (List S24)} (h : ∀ l ∈ ls, Strict l) (x : S24) : FirstIn (mergeL ls) x ↔ FirstIn ls.flatten x := by
  rw [firstIn_strict (mergeL_strict h), mergeL_mem h]
/-- Two lists of lists that hold the same, in the same order, merge alike. -/
theorem merge_alike {ls ms : List (List S24)} (h : ∀ l ∈ ls, Strict l) (g : ∀ l ∈ ms, Strict l) (he : ∀ x, FirstIn ls.flatten x ↔ FirstIn ms.flatten x) : mergeL ls = mergeL ms :=
  strict_ext (mergeL_strict h) (mergeL_strict g) (fun x => by rw [mergeL_mem h, mergeL_mem g, he])
theorem three {a b c : List S24} (ha : Strict a) (hb : Strict b) (hc : Strict c) : mergeF [mergeF [a, b], c] = mergeF [a, b, c] ∧ mergeF [a, mergeF [b, c]] = mergeF [a, b, c] ∧ mergeF [mergeF [a, b, c], mergeF [a, b, c]] = mergeF [a, b, c] ∧ Strict (mergeF [a, b, c]) ∧ Strict (mergeF [a, b]) ∧ Strict (mergeF [b, c]) := by
  have h2 : ∀ x y : List S24, Strict x → Strict y → ∀ l ∈ [x, y], Strict l := fun x y hx hy l hl => by
    rcases List.mem_cons.1 hl with rfl | hl
    · exact hx
    · rw [List.mem_singleton.1 hl]; exact hy
  have h3 : ∀ l ∈ [a, b, c], Strict l := fun l hl => by
    rcases List.mem_cons.1 hl with rfl | hl
    · exact ha
    · exact h2 b c hb hc l hl
  have s1 := mergeL_strict (h2 a b ha hb)
  have s2 := mergeL_strict (h2 b c hb hc)
  have s3 := mergeL_strict h3
  rw [mergeF_all (h2 a b ha hb), mergeF_all (h2 b c hb hc), mergeF_all h3, mergeF_all (h2 _ _ s1 hc), mergeF_all (h2 _ _ ha s2), mergeF_all (h2 _ _ s3 s3)]
  refine ⟨merge_alike (h2 _ _ s1 hc) h3 (fun x => ?_), merge_alike (h2 _ _ ha s2) h3 (fun x => ?_), strict_ext (mergeL_strict (h2 _ _ s3 s3)) s3 (fun x => ?_), s3, s1, s2⟩
  · have e1 : [mergeL [a, b], c].flatten = mergeL [a, b] ++ c := by simp
    have e2 : [a, b, c].flatten = [a, b].flatten ++ c := by simp
    rw [e1, e2]
    exact firstIn_left (fun x => firstIn_merge (h2 a b ha hb) x) c x
  · have e1 : [a, mergeL [b, c]].flatten = a ++ mergeL [b, c] := by simp
    have e2 : [a, b, c].flatten = a ++ [b, c].flatten := by simp
    rw [e1, e2]
    exact firstIn_right (fun x => firstIn_merge (h2 b c hb hc) x) a x
  · rw [mergeL_mem (h2 _ _ s3 s3)]
    have e1 : [mergeL [a, b, c], mergeL [a, b, c]].flatten = mergeL [a, b, c] ++ mergeL [a, b, c] := by simp
    rw [e1, firstIn_append, firstIn_strict s3]
    constructor
    · rintro (h | ⟨h1, h2⟩)
      · exact h
      · exact h2
    · exact .inl
theorem mergeF_no {ls : List (List S24)} (h : ¬ ls.all sortedF = true) : mergeF ls = [] := by
  unfold mergeF
  rw [if_neg h]
end Go.Proofs.Ytdpnhnfhobmopaa.P
