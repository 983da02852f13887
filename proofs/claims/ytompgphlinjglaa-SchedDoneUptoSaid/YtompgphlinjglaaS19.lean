/- Plain facts: the reference's step is the program's. -/
import Derived.Test.YtompgphlinjglaaS14
namespace Go.Proofs.Ytompgphlinjglaa.P
set_option linter.unusedVariables false
set_option linter.unusedSimpArgs false

theorem taskF_setT (S : LS) (i j : Nat) (t : TS) (hi : i < S.tasks.length) : taskF (setT S i t) j = if j = i then t else taskF S j := by
  unfold taskF setT
  simp only [List.getD_eq_getElem?_getD, List.getElem?_set]
  by_cases h : i = j
  · subst h; simp [hi]
  · rw [if_neg h, if_neg (fun e => h e.symm)]
/-- The task's act, as the reference has it. -/
def posT (t : TS) : TS := { t with pos := t.pos + 1 }
def midF (S : LS) (n : Nat) : LS :=
  if (taskF S n).pos < (taskF S n).acts.length then
    if (actF (taskF S n)).1 = 2 then (if 1 ≤ (actF (taskF S n)).2 ∧ (actF (taskF S n)).2 ≤ 1024 then setT S n { posT (taskF S n) with wait := (actF (taskF S n)).2 } else setT S n (posT (taskF S n)))
    else if (actF (taskF S n)).1 = 3 then wakeF (actF (taskF S n)).2 (setT S n (posT (taskF S n)))
    else if (actF (taskF S n)).1 = 4 then setT S n { posT (taskF S n) with told := (taskF S n).told ++ [S.clock] }
    else if (actF (taskF S n)).1 = 5 then { setT S n { posT (taskF S n) with told := (taskF S n).told ++ [drawV S] } with drawn := S.drawn + 1 }
    else setT S n (posT (taskF S n))
  else S
def finF (S : LS) (n : Nat) : LS := if (taskF S n).acts.length ≤ (taskF S n).pos then setWait S n (-1) else S
theorem setT_setT (S : LS) (n : Nat) (t u : TS) : setT (setT S n t) n u = setT S n u := by unfold setT; simp
theorem setWait_setT (S : LS) (n : Nat) (t : TS) (x : Int) (hn : n < S.tasks.length) : setWait (setT S n t) n x = setT S n { t with wait := x } := by
  unfold setWait
  rw [taskF_setT S n n t hn, if_pos rfl, setT_setT]
theorem taskF_wake (c : Int) (S : LS) (n : Nat) (hn : n < S.tasks.length) : (taskF (wakeF c S) n).acts = (taskF S n).acts ∧ (taskF (wakeF c S) n).pos = (taskF S n).pos := by
  unfold wakeF
  split
  · exact ⟨rfl, rfl⟩
  · unfold taskF
    simp only [List.getD_eq_getElem?_getD, List.getElem?_map]
    rw [List.getElem?_eq_getElem hn]
    simp only [Option.map_some, Option.getD_some, wakeT]
    split <;> exact ⟨rfl, rfl⟩
theorem fin_mid (S : LS) (n : Nat) (hn : n < S.tasks.length) (hw : (taskF S n).wait = 0) : finF (midF S n) n = moveF S n := by
  obtain ⟨t, ht⟩ : ∃ t, taskF S n = t := ⟨_, rfl⟩
  have hmv : moveF S n = endF ((wakesF t).foldl (fun s c => wakeF c s) (ownF S n)) n (doneF t) (waitF t) := by unfold moveF; rw [ht]
  rw [hmv]
  unfold midF
  rw [ht]
  by_cases hp : t.pos < t.acts.length
  · rw [if_pos hp]
    have hown : ownF S n = { setT S n { posT t with told := t.told ++ tellF S.clock (drawV S) t } with drawn := S.drawn + drewT t } := by
      unfold ownF
      rw [ht]
      unfold ownT
      rw [if_pos hp]
      rfl
    have hfin : ∀ u : TS, u.acts = t.acts → u.pos = t.pos + 1 → finF (setT S n u) n = if doneF t = true then setT S n { u with wait := -1 } else setT S n u := fun u h1 h2 => by
      have h1' : u.acts.length = t.acts.length := by rw [h1]
      unfold finF
      rw [taskF_setT S n n u hn, if_pos rfl, setWait_setT S n u (-1) hn]
      by_cases hd : t.acts.length ≤ t.pos + 1
      · have hdt : doneF t = true := by unfold doneF; exact decide_eq_true hd
        rw [if_pos hdt, if_pos (by omega)]
      · have hdt : ¬ doneF t = true := by unfold doneF; simp; omega
        rw [if_neg hdt, if_neg (by omega)]
    have hself : ∀ u : TS, u.told = t.told → ({ u with told := t.told ++ [] } : TS) = u := fun u h => by rw [List.append_nil, ← h]
    by_cases k2 : (actF t).1 = 2
    · rw [if_pos k2]
      have h1 : tellF S.clock (drawV S) t = [] := by unfold tellF; rw [if_neg (by omega), if_neg (by omega)]
      have h2 : drewT t = 0 := by unfold drewT; rw [if_neg (fun hh => by omega)]
      have h3 : wakesF t = [] := by unfold wakesF; rw [if_neg (fun hh => by omega)]
      have h4 : waitF t = (actF t).2 := by unfold waitF; rw [if_pos ⟨hp, k2⟩]
      have ho : ownF S n = setT S n (posT t) := by rw [hown, h1, h2]; show setT S n _ = _; rw [hself (posT t) rfl]
      rw [h3, h4]
      show _ = endF (ownF S n) n (doneF t) _
      rw [ho]
      unfold endF
      rw [setWait_setT S n _ _ hn, setWait_setT S n _ _ hn]
      by_cases hv : 1 ≤ (actF t).2 ∧ (actF t).2 ≤ 1024
      · rw [if_pos hv, hfin { posT t with wait := (actF t).2 } rfl rfl]
      · rw [if_neg hv, hfin (posT t) rfl rfl]
    rw [if_neg k2]
    have h4 : waitF t = 0 := by unfold waitF; rw [if_neg (fun hh => k2 hh.2)]
    have hend : ∀ T : LS, endF T n (doneF t) (waitF t) = if doneF t = true then setWait T n (-1) else T := fun T => by
      unfold endF
      rw [h4]
      simp
    rw [hend]
    by_cases k3 : (actF t).1 = 3
    · rw [if_pos k3]
      have h1 : tellF S.clock (drawV S) t = [] := by unfold tellF; rw [if_neg (by omega), if_neg (by omega)]
      have h2 : drewT t = 0 := by unfold drewT; rw [if_neg (fun hh => by omega)]
      have h3 : wakesF t = [(actF t).2] := by unfold wakesF; rw [if_pos ⟨hp, k3⟩]
      have ho : ownF S n = setT S n (posT t) := by rw [hown, h1, h2]; show setT S n _ = _; rw [hself (posT t) rfl]
      rw [h3]
      show _ = if doneF t = true then setWait (wakeF (actF t).2 (ownF S n)) n (-1) else wakeF (actF t).2 (ownF S n)
      rw [ho]
      unfold finF
      have hl : n < (setT S n (posT t)).tasks.length := by unfold setT; simpa using hn
      obtain ⟨e1, e2⟩ := taskF_wake (actF t).2 (setT S n (posT t)) n hl
      rw [e1, e2, taskF_setT S n n _ hn, if_pos rfl]
      unfold doneF
      simp only [decide_eq_true_eq]
      rfl
    rw [if_neg k3]
    have h3 : wakesF t = [] := by unfold wakesF; rw [if_neg (fun hh => k3 hh.2)]
    rw [h3]
    show _ = if doneF t = true then setWait (ownF S n) n (-1) else ownF S n
    by_cases k4 : (actF t).1 = 4
    · rw [if_pos k4]
      have h1 : tellF S.clock (drawV S) t = [S.clock] := by unfold tellF; rw [if_pos k4]
      have h2 : drewT t = 0 := by unfold drewT; rw [if_neg (fun hh => by omega)]
      have ho : ownF S n = setT S n { posT t with told := t.told ++ [S.clock] } := by rw [hown, h1, h2]; rfl
      rw [ho, hfin { posT t with told := t.told ++ [S.clock] } rfl rfl, setWait_setT S n _ _ hn]
    rw [if_neg k4]
    by_cases k5 : (actF t).1 = 5
    · rw [if_pos k5]
      have h1 : tellF S.clock (drawV S) t = [drawV S] := by unfold tellF; rw [if_neg k4, if_pos k5]
      have h2 : drewT t = 1 := by unfold drewT; rw [if_pos ⟨hp, k5⟩]
      rw [hown, h1, h2]
      have hf := hfin { posT t with told := t.told ++ [drawV S] } rfl rfl
      unfold finF at hf ⊢
      have hs := setWait_setT S n { posT t with told := t.told ++ [drawV S] } (-1) hn
      have e1 : taskF { setT S n { posT t with told := t.told ++ [drawV S] } with drawn := S.drawn + 1 } n = { posT t with told := t.told ++ [drawV S] } := by
        have := taskF_setT S n n { posT t with told := t.told ++ [drawV S] } hn
        rw [if_pos rfl] at this
        exact this
      rw [e1]
      unfold doneF
      simp only [decide_eq_true_eq]
      rfl
    rw [if_neg k5]
    have h1 : tellF S.clock (drawV S) t = [] := by unfold tellF; rw [if_neg k4, if_neg k5]
    have h2 : drewT t = 0 := by unfold drewT; rw [if_neg (fun hh => k5 hh.2)]
    have ho : ownF S n = setT S n (posT t) := by rw [hown, h1, h2]; show setT S n _ = _; rw [hself (posT t) rfl]
    rw [ho, hfin (posT t) rfl rfl, setWait_setT S n _ _ hn]
  · rw [if_neg hp]
    have hd : doneF t = true := by unfold doneF; simp; omega
    have hk : wakesF t = [] := by unfold wakesF; rw [if_neg (fun hh => hp hh.1)]
    have ho : ownF S n = S := by
      unfold ownF
      rw [ht]
      have h1 : ownT S.clock (drawV S) t = t := by unfold ownT; rw [if_neg hp]
      have h2 : drewT t = 0 := by unfold drewT; rw [if_neg (fun hh => hp hh.1)]
      rw [h1, h2]
      have h3 : setT S n t = S := by
        unfold setT
        have : S.tasks.set n t = S.tasks := by
          rw [← ht]
          unfold taskF
          simp [List.getD_eq_getElem?_getD, hn]
        rw [this]
      rw [h3]
      rfl
    rw [hk, hd]
    show _ = endF (ownF S n) n true _
    rw [ho]
    unfold finF endF
    rw [if_pos rfl, ht, if_pos (by omega)]
theorem wake_count (c : Int) (S : LS) (x : Nat) : wakeF c { S with count := x } = { wakeF c S with count := x } := by unfold wakeF; split <;> rfl
theorem wakes_count (l : List Int) (x : Nat) : ∀ S : LS, l.foldl (fun s c => wakeF c s) { S with count := x } = { l.foldl (fun s c => wakeF c s) S with count := x } := by
  induction l with
  | nil => intro S; rfl
  | cons c l ih =>
    intro S
    show l.foldl _ (wakeF c { S with count := x }) = _
    rw [wake_count]
    exact ih (wakeF c S)
theorem end_count (S : LS) (n : Nat) (d : Bool) (y : Int) (x : Nat) : endF { S with count := x } n d y = { endF S n d y with count := x } := by unfold endF; split; rfl; split <;> rfl
theorem move_count (S : LS) (n : Nat) (x : Nat) : moveF { S with count := x } n = { moveF S n with count := x } := by
  show endF (List.foldl (fun s c => wakeF c s) { ownF S n with count := x } (wakesF (taskF S n))) n (doneF (taskF S n)) (waitF (taskF S n)) = _
  rw [wakes_count, end_count]
  rfl
end Go.Proofs.Ytompgphlinjglaa.P
