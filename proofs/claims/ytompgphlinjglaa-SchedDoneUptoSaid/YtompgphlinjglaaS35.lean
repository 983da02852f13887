/- SchedDone, plain: each step of a ready task moves one task on by one act; run to its end all is done. -/
import Derived.Test.YtompgphlinjglaaS14
namespace Go.Proofs.Ytompgphlinjglaa.P
set_option linter.unusedVariables false
set_option linter.unusedSimpArgs false

/-- A task that waits on nothing: it is ready, with something to do, or done. -/
def Free (t : TS) : Prop := (∀ a ∈ t.acts, a.1 ≠ 2) ∧ (t.wait = -1 ∨ t.wait = 0 ∧ t.pos < max 1 t.acts.length)
def lefT (t : TS) : Nat := if t.wait = -1 then 0 else max 1 t.acts.length - t.pos
def lefF (S : LS) : Nat := (S.tasks.map lefT).sum
theorem sum_set (f : TS → Nat) (t' : TS) : ∀ (l : List TS) (n : Nat) (h : n < l.length), ((l.set n t').map f).sum + f (l[n]) = (l.map f).sum + f t'
  | [], n, h => absurd h (Nat.not_lt_zero _)
  | t :: l, 0, h => by simp only [List.set_cons_zero, List.map_cons, List.sum_cons, List.getElem_cons_zero]; omega
  | t :: l, n + 1, h => by
    have := sum_set f t' l n (Nat.lt_of_succ_lt_succ h)
    simp only [List.set_cons_succ, List.map_cons, List.sum_cons, List.getElem_cons_succ]
    omega
theorem sum_zero (f : TS → Nat) : ∀ (l : List TS), (l.map f).sum = 0 → ∀ t ∈ l, f t = 0
  | [], _, t, h => absurd h (by simp)
  | u :: l, h, t, ht => by
    simp only [List.map_cons, List.sum_cons] at h
    rcases List.mem_cons.1 ht with rfl | ht
    · omega
    · exact sum_zero f l (by omega) t ht
theorem sum_pos (f : TS → Nat) : ∀ (l : List TS), 0 < (l.map f).sum → ∃ t ∈ l, 0 < f t
  | [], h => absurd h (by simp)
  | u :: l, h => by
    simp only [List.map_cons, List.sum_cons] at h
    by_cases h0 : 0 < f u
    · exact ⟨u, List.mem_cons_self, h0⟩
    · obtain ⟨t, ht, hp⟩ := sum_pos f l (by omega)
      exact ⟨t, List.mem_cons_of_mem _ ht, hp⟩
theorem wake_free {S : LS} (h : ∀ t ∈ S.tasks, t.wait ≤ 0) (c : Int) : wakeF c S = S := by
  unfold wakeF
  split
  · rfl
  · rename_i hc
    have e : S.tasks.map (wakeT c) = S.tasks := by
      refine (List.map_congr_left (g := id) (fun t ht => ?_)).trans (List.map_id _)
      have := h t ht
      unfold wakeT
      rw [if_neg (by omega)]
      rfl
    rw [e]
theorem wakes_free (l : List Int) : ∀ {S : LS}, (∀ t ∈ S.tasks, t.wait ≤ 0) → l.foldl (fun s c => wakeF c s) S = S := by
  induction l with
  | nil => intro S h; rfl
  | cons c l ih => intro S h; rw [List.foldl_cons, wake_free h]; exact ih h
theorem free_wait {t : TS} (h : Free t) : t.wait ≤ 0 := by rcases h.2 with h | h <;> omega
theorem task_at {S : LS} {n : Nat} (hn : n < S.tasks.length) : taskF S n = S.tasks[n] := by unfold taskF; simp [List.getD_eq_getElem?_getD, hn]
/-- What a step makes of the task that goes. -/
def goneT (cl dv : Int) (t : TS) : TS := if doneF t = true then { ownT cl dv t with wait := -1 } else ownT cl dv t
theorem gone_free {t : TS} (cl dv : Int) (h : Free t) (hw : t.wait = 0) : Free (goneT cl dv t) ∧ lefT (goneT cl dv t) + 1 = lefT t := by
  obtain ⟨ha, hp⟩ := h
  have hp : t.pos < max 1 t.acts.length := by rcases hp with hp | hp; omega; exact hp.2
  have hx : (ownT cl dv t).acts = t.acts ∧ (ownT cl dv t).wait = t.wait := by unfold ownT; split <;> exact ⟨rfl, rfl⟩
  unfold goneT
  by_cases hd : doneF t = true
  · rw [if_pos hd]
    have hd' : t.acts.length ≤ t.pos + 1 := of_decide_eq_true hd
    refine ⟨⟨by show ∀ a ∈ (ownT cl dv t).acts, _; rw [hx.1]; exact ha, .inl rfl⟩, ?_⟩
    unfold lefT
    rw [if_pos rfl, if_neg (by omega)]
    omega
  · rw [if_neg hd]
    have hd' : t.pos + 1 < t.acts.length := by unfold doneF at hd; simpa using hd
    have e : ownT cl dv t = { t with pos := t.pos + 1, told := t.told ++ tellF cl dv t } := by unfold ownT; rw [if_pos (by omega)]
    rw [e]
    refine ⟨⟨ha, .inr ⟨hw, by show t.pos + 1 < max 1 t.acts.length; omega⟩⟩, ?_⟩
    unfold lefT
    show (if t.wait = -1 then 0 else max 1 t.acts.length - (t.pos + 1)) + 1 = _
    rw [if_neg (by omega), if_neg (by omega)]
    omega
theorem move_free {S : LS} (h : ∀ t ∈ S.tasks, Free t) {n : Nat} (hn : n < S.tasks.length) (hw : (taskF S n).wait = 0) :
    (moveF S n).tasks = S.tasks.set n (goneT S.clock (drawV S) (taskF S n)) := by
  have hf : Free (taskF S n) := h _ (by rw [task_at hn]; exact List.getElem_mem hn)
  have hwt : waitF (taskF S n) = 0 := by
    unfold waitF
    split
    · rename_i hc
      exact absurd hc.2 (hf.1 _ (by unfold actF; rw [List.getD_eq_getElem?_getD, List.getElem?_eq_getElem hc.1]; exact List.getElem_mem hc.1))
    · rfl
  have ho : ∀ t ∈ (ownF S n).tasks, t.wait ≤ 0 := by
    intro t ht
    rcases mem_set_of ht with e | e
    · rw [e]
      have : (ownT S.clock (drawV S) (taskF S n)).wait = (taskF S n).wait := by unfold ownT; split <;> rfl
      rw [this]; exact free_wait hf
    · exact free_wait (h t e)
  unfold moveF
  show (endF ((wakesF (taskF S n)).foldl (fun s c => wakeF c s) (ownF S n)) n (doneF (taskF S n)) (waitF (taskF S n))).tasks = _
  rw [wakes_free _ ho, hwt]
  unfold endF goneT
  by_cases hd : doneF (taskF S n) = true
  · rw [if_pos hd, if_pos hd]
    have e : taskF (ownF S n) n = ownT S.clock (drawV S) (taskF S n) := by
      rw [task_at (by rw [(fixed_own S n).2.2.2.1]; exact hn)]
      exact List.getElem_set_self _
    show (S.tasks.set n _).set n { taskF (ownF S n) n with wait := -1 } = _
    rw [List.set_set, e]
  · rw [if_neg hd, if_neg hd, if_neg (by omega)]
    rfl
theorem ready_wait {S : LS} {pick : Int} (h : stepsF S pick = true) : goesF S pick < S.tasks.length ∧ (taskF S (goesF S pick)).wait = 0 := by
  have hlt := goes_lt h
  refine ⟨hlt, ?_⟩
  unfold stepsF at h
  simp only [Bool.and_eq_true, decide_eq_true_eq, Bool.not_eq_true', List.isEmpty_eq_false_iff] at h
  have h1 : 0 < (readyF S).length := List.length_pos_iff.mpr h.2
  have m1 := Int.emod_lt_of_pos pick (show (0 : Int) < (readyF S).length by omega)
  have m0 := Int.emod_nonneg pick (show ((readyF S).length : Int) ≠ 0 by omega)
  have hl : (pick % ((readyF S).length : Int)).toNat < (readyF S).length := by omega
  have hm : (readyF S).getD (pick % ((readyF S).length : Int)).toNat 0 ∈ readyTo (waitsF S) (waitsF S).length := by
    have : (readyF S).getD (pick % ((readyF S).length : Int)).toNat 0 = (readyF S)[(pick % ((readyF S).length : Int)).toNat] := by simp [List.getD_eq_getElem?_getD, hl]
    rw [this]; exact List.getElem_mem hl
  obtain ⟨r0, r1, r2⟩ := readyTo_mem _ _ _ hm
  have e : (waitsF S).getD (goesF S pick) 0 = 0 := r2
  unfold waitsF at e
  rw [task_at hlt]
  simpa [List.getD_eq_getElem?_getD, List.getElem?_map, List.getElem?_eq_getElem hlt] using e
theorem step_free {S : LS} (h : ∀ t ∈ S.tasks, Free t) {pick : Int} (hs : stepsF S pick = true) :
    (∀ t ∈ (stepF S pick).tasks, Free t) ∧ lefF (stepF S pick) + 1 = lefF S ∧ (stepF S pick).count = S.count + 1 := by
  obtain ⟨hn, hw⟩ := ready_wait hs
  have ht : (tickF S).tasks = S.tasks := by unfold tickF; split <;> rfl
  have hm := move_free (S := tickF S) (by rw [ht]; exact h) (n := goesF S pick) (by rw [ht]; exact hn) (by unfold taskF; rw [ht]; exact hw)
  have et : taskF (tickF S) (goesF S pick) = taskF S (goesF S pick) := by unfold taskF; rw [ht]
  rw [ht, et] at hm
  have hf : Free (taskF S (goesF S pick)) := h _ (by rw [task_at hn]; exact List.getElem_mem hn)
  obtain ⟨g1, g2⟩ := gone_free (tickF S).clock (drawV (tickF S)) hf hw
  have e : stepF S pick = { moveF (tickF S) (goesF S pick) with count := S.count + 1 } := by unfold stepF; rw [if_pos hs]
  have e2 : (stepF S pick).tasks = S.tasks.set (goesF S pick) (goneT (tickF S).clock (drawV (tickF S)) (taskF S (goesF S pick))) := by rw [e]; exact hm
  refine ⟨fun t hh => ?_, ?_, by rw [e]⟩
  · rw [e2] at hh
    rcases mem_set_of hh with r | r
    · rw [r]; exact g1
    · exact h t r
  · unfold lefF
    rw [e2]
    have := sum_set lefT (goneT (tickF S).clock (drawV (tickF S)) (taskF S (goesF S pick))) S.tasks (goesF S pick) hn
    rw [← task_at hn] at this
    omega
theorem steps_free {S : LS} (h : ∀ t ∈ S.tasks, Free t) {pick : Int} (hp : 0 ≤ pick) : stepsF S pick = decide (0 < lefF S) := by
  by_cases hl : 0 < lefF S
  · rw [decide_eq_true hl]
    obtain ⟨t, ht, hq⟩ := sum_pos lefT _ hl
    have hw : t.wait = 0 := by
      rcases (h t ht).2 with r | r
      · unfold lefT at hq; rw [if_pos r] at hq; omega
      · exact r.1
    obtain ⟨i, hi, rfl⟩ := List.mem_iff_getElem.1 ht
    unfold stepsF
    have hne : readyF S ≠ [] := by
      intro e
      have : (i : Int) ∈ readyF S := by
        unfold readyF readyW readyTo
        refine List.mem_map.2 ⟨i, List.mem_filter.2 ⟨List.mem_range.2 (by unfold waitsF; rw [List.length_map]; exact hi), ?_⟩, rfl⟩
        unfold waitsF
        simp [List.getD_eq_getElem?_getD, List.getElem?_map, List.getElem?_eq_getElem hi, hw]
      rw [e] at this
      exact absurd this (by simp)
    rw [decide_eq_true hp]
    cases hr : readyF S with
    | nil => exact absurd hr hne
    | cons a l => rfl
  · rw [decide_eq_false hl]
    cases hs : stepsF S pick with
    | false => rfl
    | true =>
      have := (step_free h hs).2.1
      omega
theorem picks_ok {S : LS} (h : ∀ x ∈ S.picks, 0 ≤ x) : 0 ≤ pickF S := by
  unfold pickF
  by_cases hu : S.used < S.picks.length
  · rw [List.getD_eq_getElem?_getD, List.getElem?_eq_getElem hu]; exact h _ (List.getElem_mem hu)
  · rw [List.getD_eq_getElem?_getD, List.getElem?_eq_none (by omega)]; exact Int.le_refl 0
theorem next_picks (S : LS) : (nextF S).picks = S.picks := by
  unfold nextF
  split <;> exact (fixed_step S _).1
theorem next_tasks (S : LS) : (nextF S).tasks = (stepF S (pickF S)).tasks ∧ (nextF S).count = (stepF S (pickF S)).count := by
  unfold nextF
  split <;> exact ⟨rfl, rfl⟩
/-- Run to its end. -/
theorem run_free : ∀ (n : Nat) (S : LS), (∀ t ∈ S.tasks, Free t) → (∀ x ∈ S.picks, 0 ≤ x) → lefF S ≤ n →
    ranF n S = lefF S ∧ (runF n S).count = S.count + lefF S ∧ (∀ t ∈ (runF n S).tasks, t.wait = -1) := by
  have fin : ∀ S : LS, (∀ t ∈ S.tasks, Free t) → lefF S = 0 → ∀ t ∈ S.tasks, t.wait = -1 := by
    intro S h hl t ht
    have h0 := sum_zero lefT _ hl t ht
    rcases (h t ht).2 with r | r
    · exact r
    · unfold lefT at h0
      rw [if_neg (by omega)] at h0
      omega
  intro n
  induction n with
  | zero =>
    intro S h hp hl
    exact ⟨by show 0 = _; omega, by show S.count = _; omega, fin S h (by omega)⟩
  | succ n ih =>
    intro S h hp hl
    have hs := steps_free h (picks_ok hp)
    by_cases h0 : 0 < lefF S
    · rw [decide_eq_true h0] at hs
      obtain ⟨f1, f2, f3⟩ := step_free h hs
      have e1 : lefF (nextF S) = lefF (stepF S (pickF S)) := by unfold lefF; rw [(next_tasks S).1]
      obtain ⟨r1, r2, r3⟩ := ih (nextF S) (by rw [(next_tasks S).1]; exact f1) (by rw [next_picks]; exact hp) (by omega)
      unfold ranF runF
      rw [if_pos hs, if_pos hs]
      refine ⟨by omega, ?_, r3⟩
      rw [r2, (next_tasks S).2, f3]
      omega
    · rw [decide_eq_false h0] at hs
      have e : nextF S = S := by
        unfold nextF
        rw [if_neg (by rw [hs]; simp)]
        unfold stepF
        rw [if_neg (by rw [hs]; simp)]
      unfold ranF runF
      rw [if_neg (by rw [hs]; simp), if_neg (by rw [hs]; simp), e]
      exact ⟨by omega, by omega, fin S h (by omega)⟩
theorem done_free {S : LS} (h : ∀ t ∈ S.tasks, t.wait = -1) : readyF S = [] ∧ (waitsF S).any (fun x => x != -1) = false := by
  have hw : ∀ x ∈ waitsF S, x = -1 := by
    intro x hx
    obtain ⟨t, ht, rfl⟩ := List.mem_map.1 hx
    exact h t ht
  refine ⟨?_, ?_⟩
  · cases hr : readyF S with
    | nil => rfl
    | cons a l =>
      have ha : a ∈ readyF S := by rw [hr]; exact List.mem_cons_self
      obtain ⟨r0, r1, r2⟩ := readyTo_mem _ _ _ ha
      have hlt : a.toNat < (waitsF S).length := by omega
      rw [List.getD_eq_getElem?_getD, List.getElem?_eq_getElem hlt] at r2
      have := hw _ (List.getElem_mem hlt)
      simp only [Option.getD_some] at r2
      omega
  · rw [List.any_eq_false]
    intro x hx
    rw [hw x hx]
    simp
/-- What the adding of tasks keeps. -/
theorem add_free {S : LS} (h : ∀ t ∈ S.tasks, Free t) (hl : S.tasks.length < 64) {acts : List (Int × Int)} (ha : ∀ a ∈ acts, a.1 ≠ 2) :
    (∀ t ∈ (addF S acts).tasks, Free t) ∧ lefF (addF S acts) = lefF S + max 1 acts.length ∧ (addF S acts).count = S.count ∧ (addF S acts).picks = S.picks ∧ (addF S acts).tasks.length = S.tasks.length + 1 := by
  unfold addF
  rw [if_pos hl]
  refine ⟨fun t ht => ?_, ?_, rfl, rfl, by simp⟩
  · rcases List.mem_append.1 ht with e | e
    · exact h t e
    · rw [List.mem_singleton.1 e]; exact ⟨ha, .inr ⟨rfl, by show 0 < _; omega⟩⟩
  · unfold lefF
    simp only [List.map_append, List.sum_append, List.map_cons, List.map_nil, List.sum_cons, List.sum_nil]
    have e : lefT ⟨acts, 0, 0, []⟩ = max 1 acts.length := by unfold lefT; rw [if_neg (by show ¬ ((0 : Int) = -1); decide)]; exact Nat.sub_zero _
    rw [e]
    omega
end Go.Proofs.Ytompgphlinjglaa.P
