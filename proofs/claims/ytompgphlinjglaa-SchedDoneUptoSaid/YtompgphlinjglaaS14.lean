/- Plain facts of a step: what stays; the counters stay small. -/
import Derived.Test.YtompgphlinjglaaS0
namespace Go.Proofs.Ytompgphlinjglaa.P
set_option linter.unusedVariables false
set_option linter.unusedSimpArgs false

/-- What no step turns. -/
def Fixed (S T : LS) : Prop := T.picks = S.picks ∧ T.ticks = S.ticks ∧ T.draws = S.draws ∧ T.tasks.length = S.tasks.length ∧ T.used = S.used
theorem Fixed.refl (S : LS) : Fixed S S := ⟨rfl, rfl, rfl, rfl, rfl⟩
theorem Fixed.trans {S T U : LS} (h : Fixed S T) (k : Fixed T U) : Fixed S U := ⟨k.1.trans h.1, k.2.1.trans h.2.1, k.2.2.1.trans h.2.2.1, k.2.2.2.1.trans h.2.2.2.1, k.2.2.2.2.trans h.2.2.2.2⟩
theorem fixed_wake (c : Int) (S : LS) : Fixed S (wakeF c S) := by unfold wakeF; split; exact Fixed.refl S; exact ⟨rfl, rfl, rfl, List.length_map _, rfl⟩
theorem fixed_wakes (l : List Int) : ∀ S, Fixed S (l.foldl (fun s c => wakeF c s) S) := by
  induction l with
  | nil => exact Fixed.refl
  | cons c l ih => intro S; exact (fixed_wake c S).trans (ih _)
theorem fixed_own (S : LS) (n : Nat) : Fixed S (ownF S n) := ⟨rfl, rfl, rfl, List.length_set, rfl⟩
theorem fixed_end (S : LS) (n : Nat) (d : Bool) (x : Int) : Fixed S (endF S n d x) := by
  unfold endF
  split
  · exact ⟨rfl, rfl, rfl, List.length_set, rfl⟩
  · split
    · exact ⟨rfl, rfl, rfl, List.length_set, rfl⟩
    · exact Fixed.refl S
theorem fixed_tick (S : LS) : Fixed S (tickF S) := by unfold tickF; split <;> exact ⟨rfl, rfl, rfl, rfl, rfl⟩
theorem fixed_move (S : LS) (n : Nat) : Fixed S (moveF S n) := ((fixed_own S n).trans (fixed_wakes _ _)).trans (fixed_end _ n _ _)
theorem fixed_step (S : LS) (pick : Int) : Fixed S (stepF S pick) := by
  unfold stepF
  split
  · exact (fixed_tick S).trans (fixed_move _ _)
  · exact Fixed.refl S
/-- What holds of each task. -/
def GoodT (t : TS) : Prop := t.told.length ≤ t.pos ∧ t.pos ≤ t.acts.length ∧ t.acts.length ≤ 8796093022208 ∧ -1 ≤ t.wait
theorem mem_set_of {ts : List TS} {n : Nat} {t x : TS} (h : x ∈ ts.set n t) : x = t ∨ x ∈ ts := by
  rcases List.mem_or_eq_of_mem_set h with h | h
  · exact .inr h
  · exact .inl h
theorem task_good {S : LS} (h : ∀ t ∈ S.tasks, GoodT t) {n : Nat} (hn : n < S.tasks.length) : GoodT (taskF S n) := h _ (by unfold taskF; simp [List.getD_eq_getElem?_getD, hn])
theorem good_wakeT {c : Int} {t : TS} (h : GoodT t) : GoodT (wakeT c t) := by
  unfold wakeT
  split
  · exact ⟨h.1, h.2.1, h.2.2.1, by show (-1 : Int) ≤ 0; omega⟩
  · exact h
theorem good_wake {c : Int} {S : LS} (h : ∀ t ∈ S.tasks, GoodT t) : ∀ t ∈ (wakeF c S).tasks, GoodT t := by
  unfold wakeF
  split
  · exact h
  · intro t ht
    obtain ⟨u, hu, rfl⟩ := List.mem_map.1 ht
    exact good_wakeT (h u hu)
theorem good_wakes (l : List Int) : ∀ {S : LS}, (∀ t ∈ S.tasks, GoodT t) → ∀ t ∈ (l.foldl (fun s c => wakeF c s) S).tasks, GoodT t := by
  induction l with
  | nil => intro S h; exact h
  | cons c l ih => intro S h; exact ih (good_wake h)
theorem tellF_len (cl dv : Int) (t : TS) : (tellF cl dv t).length ≤ 1 := by unfold tellF; split; simp; split <;> simp
theorem good_ownT {cl dv : Int} {t : TS} (h : GoodT t) : GoodT (ownT cl dv t) := by
  unfold ownT
  split
  · rename_i hp
    have := tellF_len cl dv t
    exact ⟨by show (t.told ++ tellF cl dv t).length ≤ t.pos + 1; rw [List.length_append]; have := h.1; omega, by show t.pos + 1 ≤ t.acts.length; omega, h.2.2.1, h.2.2.2⟩
  · exact h
theorem good_own {S : LS} (h : ∀ t ∈ S.tasks, GoodT t) {n : Nat} (hn : n < S.tasks.length) : ∀ t ∈ (ownF S n).tasks, GoodT t := by
  intro t ht
  rcases mem_set_of ht with e | e
  · rw [e]; exact good_ownT (task_good h hn)
  · exact h t e
theorem good_setWait {S : LS} (h : ∀ t ∈ S.tasks, GoodT t) {n : Nat} (hn : n < S.tasks.length) {x : Int} (hx : -1 ≤ x) : ∀ t ∈ (setWait S n x).tasks, GoodT t := by
  intro t ht
  rcases mem_set_of ht with e | e
  · have := task_good h hn
    rw [e]; exact ⟨this.1, this.2.1, this.2.2.1, hx⟩
  · exact h t e
theorem good_end {S : LS} (h : ∀ t ∈ S.tasks, GoodT t) {n : Nat} (hn : n < S.tasks.length) (d : Bool) (x : Int) : ∀ t ∈ (endF S n d x).tasks, GoodT t := by
  unfold endF
  split
  · exact good_setWait h hn (by omega)
  · split
    · exact good_setWait h hn (by omega)
    · exact h
theorem drawn_wakes (l : List Int) : ∀ S : LS, (l.foldl (fun s c => wakeF c s) S).drawn = S.drawn := by
  induction l with
  | nil => intro S; rfl
  | cons c l ih => intro S; exact (ih (wakeF c S)).trans (by unfold wakeF; split <;> rfl)
theorem drawn_end (S : LS) (n : Nat) (d : Bool) (x : Int) : (endF S n d x).drawn = S.drawn := by unfold endF; split; rfl; split <;> rfl
theorem drawn_move (S : LS) (n : Nat) : (moveF S n).drawn = S.drawn + drewT (taskF S n) := (drawn_end _ _ _ _).trans (drawn_wakes _ _)
theorem drewT_le (t : TS) : drewT t ≤ 1 := by unfold drewT; split <;> omega
theorem goes_lt {S : LS} {pick : Int} (h : stepsF S pick = true) : goesF S pick < S.tasks.length := by
  unfold stepsF at h
  simp only [Bool.and_eq_true, decide_eq_true_eq, Bool.not_eq_true', List.isEmpty_eq_false_iff] at h
  have h1 : 0 < (readyF S).length := List.length_pos_iff.mpr h.2
  have m1 := Int.emod_lt_of_pos pick (show (0 : Int) < (readyF S).length by omega)
  have m0 := Int.emod_nonneg pick (show ((readyF S).length : Int) ≠ 0 by omega)
  have hlt : (pick % ((readyF S).length : Int)).toNat < (readyF S).length := by omega
  have hm : (readyF S).getD (pick % ((readyF S).length : Int)).toNat 0 ∈ readyTo (waitsF S) (waitsF S).length := by
    have : (readyF S).getD (pick % ((readyF S).length : Int)).toNat 0 = (readyF S)[(pick % ((readyF S).length : Int)).toNat] := by simp [List.getD_eq_getElem?_getD, hlt]
    rw [this]; exact List.getElem_mem hlt
  obtain ⟨r0, r1, _⟩ := readyTo_mem _ _ _ hm
  have : (waitsF S).length = S.tasks.length := List.length_map _
  unfold goesF
  omega
theorem good_step {B : Nat} {S : LS} (h : Good B S) (pick : Int) : Good (B + 1) (stepF S pick) := by
  obtain ⟨f1, f2, f3, f4, f5⟩ := fixed_step S pick
  refine ⟨by rw [f4]; exact h.tasks, ?_, ?_, ?_, by rw [f1]; exact h.picks, by rw [f2]; exact h.ticks, by rw [f3]; exact h.draws, by rw [f5, f1]; exact h.used⟩
  · unfold stepF
    split
    · rename_i hs
      have hn := goes_lt hs
      have ht : (tickF S).tasks = S.tasks := by unfold tickF; split <;> rfl
      have h0 : ∀ t ∈ (tickF S).tasks, GoodT t := by rw [ht]; exact h.each
      have hn1 : goesF S pick < (tickF S).tasks.length := by rw [ht]; exact hn
      exact good_end (good_wakes _ (good_own h0 hn1)) (by rw [(fixed_wakes _ _).2.2.2.1, (fixed_own _ _).2.2.2.1]; exact hn1) _ _
    · exact h.each
  · unfold stepF
    split
    · show (moveF (tickF S) _).drawn ≤ S.count + 1
      rw [drawn_move]
      have h1 := drewT_le (taskF (tickF S) (goesF S pick))
      have h2 : (tickF S).drawn = S.drawn := by unfold tickF; split <;> rfl
      have := h.drawn
      omega
    · exact h.drawn
  · unfold stepF
    split
    · show S.count + 1 ≤ B + 1
      have := h.count; omega
    · exact Nat.le_succ_of_le h.count
theorem good_next {B : Nat} {S : LS} (h : Good B S) : Good (B + 1) (nextF S) := by
  unfold nextF
  have hs := good_step h (pickF S)
  split
  · rename_i hc
    refine ⟨hs.tasks, hs.each, hs.drawn, hs.count, hs.picks, hs.ticks, hs.draws, ?_⟩
    show S.used + 1 ≤ (stepF S (pickF S)).picks.length
    rw [(fixed_step S (pickF S)).1]
    exact hc.2
  · exact hs
theorem good_up {B C : Nat} {S : LS} (h : Good B S) (hc : B ≤ C) : Good C S := ⟨h.tasks, h.each, h.drawn, Nat.le_trans h.count hc, h.picks, h.ticks, h.draws, h.used⟩
theorem good_wakeS {B : Nat} {S : LS} (h : Good B S) (c : Int) : Good B (wakeF c S) := by
  obtain ⟨f1, f2, f3, f4, f5⟩ := fixed_wake c S
  have hd : (wakeF c S).drawn = S.drawn := by unfold wakeF; split <;> rfl
  have hc : (wakeF c S).count = S.count := by unfold wakeF; split <;> rfl
  exact ⟨by rw [f4]; exact h.tasks, good_wake h.each, by rw [hd, hc]; exact h.drawn, by rw [hc]; exact h.count, by rw [f1]; exact h.picks, by rw [f2]; exact h.ticks, by rw [f3]; exact h.draws, by rw [f5, f1]; exact h.used⟩
theorem good_add {B : Nat} {S : LS} (h : Good B S) {acts : List (Int × Int)} (ha : acts.length ≤ 8796093022208) : Good B (addF S acts) := by
  unfold addF
  split
  · rename_i hl
    refine ⟨by show (S.tasks ++ [_]).length ≤ 64; rw [List.length_append]; show S.tasks.length + 1 ≤ 64; omega, fun t ht => ?_, h.drawn, h.count, h.picks, h.ticks, h.draws, h.used⟩
    rcases List.mem_append.1 ht with e | e
    · exact h.each t e
    · rw [List.mem_singleton.1 e]; exact ⟨Nat.zero_le _, Nat.zero_le _, ha, by show (-1 : Int) ≤ 0; omega⟩
  · exact h
theorem good_run (n : Nat) : ∀ {B : Nat} {S : LS}, Good B S → Good (B + n) (runF n S) := by
  induction n with
  | zero => intro B S h; exact h
  | succ n ih =>
    intro B S h
    unfold runF
    split
    · have := ih (good_next h); rw [Nat.add_assoc, Nat.add_comm 1 n] at this; exact this
    · exact good_up (good_next h) (by omega)
end Go.Proofs.Ytompgphlinjglaa.P
