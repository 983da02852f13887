/- Plain: the reference's Cut is the program's. -/
import Derived.Test.YtdibolblgchpdaaTQ1
import Derived.Test.YtdibolblgchpdaaTC4
import Derived.Test.YtdibolblgchpdaaTC5
import Derived.Lib.Strings
namespace Go.Proofs.Ytdibolblgchpdaa.P
open Go.RowKit Go.Proofs.YtdibolblgchpdaaW.PrintWords Go.Proofs.YtdibolblgchpdaaW.PrintLast Go.Proofs.YtdibolblgchpdaaW.PrintMore
set_option linter.unusedVariables false
set_option linter.unusedSimpArgs false
theorem cb_zero : ∀ a b : List UInt8, Lib.compareBytes a b = 0 ↔ a = b
  | [], [] => by simp [Lib.compareBytes]
  | [], _ :: _ => by simp [Lib.compareBytes]
  | _ :: _, [] => by simp [Lib.compareBytes]
  | x :: a, y :: b => by
    have ih := cb_zero a b
    unfold Lib.compareBytes
    by_cases h1 : x < y
    · rw [if_pos h1]
      constructor
      · intro h; omega
      · intro h; injection h with h2 h3; subst h2; exact absurd h1 (UInt8.lt_irrefl x)
    · rw [if_neg h1]
      by_cases h2 : y < x
      · rw [if_pos h2]
        constructor
        · intro h; omega
        · intro h; injection h with h3 h4; subst h3; exact absurd h2 (UInt8.lt_irrefl x)
      · rw [if_neg h2, ih]
        have e : x = y := UInt8.le_antisymm (UInt8.not_lt.1 h2) (UInt8.not_lt.1 h1)
        subst e
        simp
end Go.Proofs.Ytdibolblgchpdaa.P
namespace Go.Proofs.Ytdibolblgchpdaa.P
open Go.RowKit Go.Proofs.YtdibolblgchpdaaW.PrintWords Go.Proofs.YtdibolblgchpdaaW.PrintLast Go.Proofs.YtdibolblgchpdaaW.PrintMore
set_option linter.unusedVariables false
set_option linter.unusedSimpArgs false
theorem key_iff (a b : S59) : a.f0.toList = b.f0.toList ↔ Lib.compareBytes a.f0.data.toList b.f0.data.toList = 0 := by
  rw [cb_zero, Lib.toList_data, Lib.toList_data]
theorem cmp_lt_iff (a b : S59) : cmpOf a b < 0 ↔ Lib.compareBytes a.f0.data.toList b.f0.data.toList < 0 ∨ (a.f0.toList = b.f0.toList ∧ b.f1 < a.f1) := by
  rw [key_iff]
  unfold cmpOf
  by_cases h : Lib.compareBytes a.f0.data.toList b.f0.data.toList = 0
  · rw [if_neg (by simpa using h), h]
    by_cases h1 : b.f1 < a.f1
    · simp [h1]
    · rw [if_neg h1]
      by_cases h2 : b.f1 > a.f1
      · rw [if_pos h2]; simp; omega
      · rw [if_neg h2]; simp; omega
  · rw [if_pos h]
    constructor
    · intro h1; exact .inl h1
    · rintro (h1 | ⟨h1, _⟩)
      · exact h1
      · exact absurd h1 h
theorem less_ref (a b : S59) : atriumref06_Less.f a.f0 a.f1 a.f2 a.f3 b.f0 b.f1 b.f2 b.f3 = some (decide (cmpOf a b < 0)) := by
  unfold atriumref06_Less.f
  have h := cmp_lt_iff a b
  by_cases h1 : Op.bytesLess a.f0.toList b.f0.toList = true
  · rw [if_pos h1]
    rw [Lib.toList_data, Lib.toList_data, cb_less] at h1
    rw [decide_eq_true (h.2 (.inl h1))]
  · rw [if_neg h1]
    rw [Lib.toList_data, Lib.toList_data, cb_less] at h1
    by_cases h2 : a.f0.toList = b.f0.toList
    · rw [if_pos h2]
      congr 1
      rw [decide_eq_decide, h]
      constructor
      · intro h3; exact .inr ⟨h2, h3⟩
      · rintro (h3 | h3)
        · exact absurd h3 h1
        · exact h3.2
    · rw [if_neg h2]
      rw [decide_eq_false]
      rintro h3
      rcases h.1 h3 with h3 | h3
      · exact h1 h3
      · exact h2 h3.1
theorem sorted_ref0 (l : List S59) (hl : l.length ≤ 1152921504606846976) (d : Nat) : ∀ i : Nat, i + 1 ≤ l.length → l.length - (i + 1) = d →
    Ev (fun k => atriumref10_Sorted.l0 k l ((i + 1 : Nat) : Int)) (sortedF (l.drop i)) := by
  induction d with
  | zero =>
    intro i hi hd
    have e : l.drop i = [l[i]'(by omega)] := by
      rw [List.drop_eq_getElem_cons (by omega), List.drop_eq_nil_of_le (by omega)]
    rw [e]
    refine Ev.step (f := fun _ => some true) (fun k => ?_) (Ev.now _)
    simp only [atriumref10_Sorted.l0]
    rw [if_neg (by omega)]
  | succ d ih =>
    intro i hi hd
    have hi1 : i + 1 < l.length := by omega
    have w1 : wrap64 (((i + 1 : Nat) : Int) - 1) = (i : Int) := by unfold wrap64; omega
    have w2 : wrap64 (((i + 1 : Nat) : Int) + 1) = ((i + 1 + 1 : Nat) : Int) := wr1 _ (by omega)
    have c1 : ((i + 1 : Nat) : Int) < (l.length : Int) := by omega
    have c2 : (0 : Int) ≤ (i : Int) := by omega
    have c3 : (i : Int) < (l.length : Int) := by omega
    have c4 : (0 : Int) ≤ ((i + 1 : Nat) : Int) := by omega
    have e : l.drop i = l[i] :: l[i + 1] :: l.drop (i + 1 + 1) := by
      rw [List.drop_eq_getElem_cons (by omega), List.drop_eq_getElem_cons (by omega)]
    have e2 : l.drop (i + 1) = l[i + 1] :: l.drop (i + 1 + 1) := by rw [List.drop_eq_getElem_cons (by omega)]
    have hs : sortedF (l.drop i) = (decide (cmpOf l[i] l[i + 1] < 0) && sortedF (l.drop (i + 1))) := by rw [e, e2]; rfl
    rw [hs]
    by_cases hb : cmpOf l[i] l[i + 1] < 0
    · rw [decide_eq_true hb, Bool.true_and]
      refine Ev.step (f := fun k => atriumref10_Sorted.l0 k l ((i + 1 + 1 : Nat) : Int)) (fun k => ?_) (ih (i + 1) (by omega) (by omega))
      simp only [atriumref10_Sorted.l0]
      rw [w1, w2, if_pos c1, if_pos c2, if_pos c3, if_pos c4, rd59_getElem l i (by omega), rd59_getElem l (i + 1) hi1, less_ref, Option.bind_some, decide_eq_true hb, if_pos rfl]
    · rw [decide_eq_false hb, Bool.false_and]
      refine Ev.step (f := fun _ => some false) (fun k => ?_) (Ev.now _)
      simp only [atriumref10_Sorted.l0]
      rw [w1, w2, if_pos c1, if_pos c2, if_pos c3, if_pos c4, rd59_getElem l i (by omega), rd59_getElem l (i + 1) hi1, less_ref, Option.bind_some, decide_eq_false hb, if_neg (by decide)]
theorem sorted_ref (l : List S59) (hl : l.length ≤ 1152921504606846976) : Ev (fun k => atriumref10_Sorted.f k l) (sortedF l) := by
  unfold atriumref10_Sorted.f
  cases h : l with
  | nil =>
    refine Ev.step (f := fun _ => some true) (fun k => ?_) (Ev.now _)
    simp only [atriumref10_Sorted.l0]
    rw [if_neg (by simp)]
  | cons a t =>
    have h1 := sorted_ref0 (a :: t) (by rw [← h]; exact hl) t.length 0 (by simp) (by simp)
    exact h1
end Go.Proofs.Ytdibolblgchpdaa.P
namespace Go.Proofs.Ytdibolblgchpdaa.P
open Go.RowKit Go.Proofs.YtdibolblgchpdaaW.PrintWords Go.Proofs.YtdibolblgchpdaaW.PrintLast Go.Proofs.YtdibolblgchpdaaW.PrintMore
set_option linter.unusedVariables false
set_option linter.unusedSimpArgs false
abbrev keyOf (x : S59) : List UInt8 := x.f0.toList
theorem dw_head {p : S59 → Bool} : ∀ (l : List S59), ∀ y ∈ (l.dropWhile p).head?, p y = false
  | [], y, h => by simp at h
  | a :: l, y, h => by
    by_cases ha : p a = true
    · rw [List.dropWhile_cons_of_pos ha] at h
      exact dw_head l y h
    · rw [List.dropWhile_cons_of_neg ha] at h
      have : a = y := by simpa using h
      subst this
      simpa using ha
theorem tw_all {p : S59 → Bool} : ∀ (l : List S59), ∀ y ∈ l.takeWhile p, p y = true
  | [], y, h => by simp at h
  | a :: l, y, h => by
    by_cases ha : p a = true
    · rw [List.takeWhile_cons_of_pos ha] at h
      rcases List.mem_cons.1 h with rfl | h
      · exact ha
      · exact tw_all l y h
    · rw [List.takeWhile_cons_of_neg ha] at h
      cases h
end Go.Proofs.Ytdibolblgchpdaa.P
namespace Go.Proofs.Ytdibolblgchpdaa.P
open Go.RowKit Go.Proofs.YtdibolblgchpdaaW.PrintWords Go.Proofs.YtdibolblgchpdaaW.PrintLast Go.Proofs.YtdibolblgchpdaaW.PrintMore
set_option linter.unusedVariables false
set_option linter.unusedSimpArgs false
theorem run_split (x : S59) (s : List S59) : (x :: s).take (runLen (x :: s)) = x :: s.takeWhile (fun y => decide (y.f0.toList = x.f0.toList)) ∧ (x :: s).drop (runLen (x :: s)) = s.dropWhile (fun y => decide (y.f0.toList = x.f0.toList)) := by
  have e : runLen (x :: s) = (s.takeWhile fun y => decide (y.f0.toList = x.f0.toList)).length + 1 := by
    show 1 + _ = _
    omega
  have hsp := List.takeWhile_append_dropWhile (p := fun y : S59 => decide (y.f0.toList = x.f0.toList)) (l := s)
  rw [e, List.take_succ_cons, List.drop_succ_cons]
  constructor
  · congr 1
    conv => lhs; arg 2; rw [← hsp]
    exact List.take_left
  · conv => lhs; arg 2; rw [← hsp]
    exact List.drop_left
/-- The last of a is of another key than the first of b. -/
def Bd (a b : List S59) : Prop := ∀ x ∈ a.getLast?, ∀ y ∈ b.head?, keyOf x ≠ keyOf y
theorem bd_grp (l : List S59) (t : Nat) : Bd (grp l t) (restAt l (t + 1)) := by
  intro a ha y hy
  have e1 : restAt l (t + 1) = (restAt l t).drop (runLen (restAt l t)) := rfl
  rw [e1] at hy
  unfold grp at ha
  cases h : restAt l t with
  | nil => rw [h] at ha; simp at ha
  | cons x s =>
    rw [h] at ha hy
    obtain ⟨h1, h2⟩ := run_split x s
    rw [h1] at ha
    rw [h2] at hy
    have hk : keyOf y ≠ keyOf x := of_decide_eq_false (dw_head (p := fun y => decide (y.f0.toList = x.f0.toList)) s y hy)
    have hm : a ∈ x :: s.takeWhile (fun y => decide (y.f0.toList = x.f0.toList)) := List.mem_of_getLast? ha
    have ha' : keyOf a = keyOf x := by
      rcases List.mem_cons.1 hm with rfl | hm
      · rfl
      · exact of_decide_eq_true (tw_all (p := fun y => decide (y.f0.toList = x.f0.toList)) s a hm)
    rw [ha']
    exact fun e => hk e.symm
theorem getLast_app {a b : List S59} (hb : b ≠ []) : (a ++ b).getLast? = b.getLast? := by
  rw [List.getLast?_append]
  cases h : b.getLast? with
  | none => exact absurd (List.getLast?_eq_none_iff.1 h) hb
  | some x => rfl
theorem head_app {a b : List S59} (ha : a ≠ []) : (a ++ b).head? = a.head? := by
  cases a with
  | nil => exact absurd rfl ha
  | cons x a => rfl
structure CutInv (st : List (List S59) × List S59) (rest : List S59) : Prop where
  pieces : ∀ i, (h : i < st.1.length) → Bd ((st.1.take i).flatten) st.1[i]
  now : Bd st.1.flatten st.2
  rest : Bd (st.1.flatten ++ st.2) rest
theorem cut_inv (size : Int) (l : List S59) (t : Nat) : CutInv (cutTo size l t) (restAt l t) := by
  induction t with
  | zero => exact ⟨fun i h => absurd h (Nat.not_lt_zero _), fun x hx => by simp [cutTo] at hx, fun x hx => by simp [cutTo] at hx⟩
  | succ t ih =>
    have hg := bd_grp l t
    have hr : grp l t ++ restAt l (t + 1) = restAt l t := List.take_append_drop _ _
    show CutInv (cutStep size (cutTo size l t) (grp l t)) (restAt l (t + 1))
    obtain ⟨i1, i2, i3⟩ := ih
    rw [← hr] at i3
    generalize cutTo size l t = st at i1 i2 i3 ⊢
    obtain ⟨out, now⟩ := st
    dsimp only at i1 i2 i3
    unfold cutStep
    by_cases hge : grp l t = []
    · rw [if_pos hge]
      rw [hge, List.nil_append] at i3
      exact ⟨i1, i2, i3⟩
    · rw [if_neg hge]
      have hlast : ∀ X : List S59, Bd (X ++ grp l t) (restAt l (t + 1)) := fun X => by unfold Bd; rw [getLast_app hge]; exact hg
      split
      · refine ⟨fun i hi => ?_, ?_, ?_⟩
        · dsimp only at hi ⊢
          rw [List.length_append, List.length_singleton] at hi
          by_cases hlt : i < out.length
          · rw [List.take_append_of_le_length (by omega), List.getElem_append_left hlt]
            exact i1 i hlt
          · obtain rfl : i = out.length := by omega
            rw [List.take_left, List.getElem_append_right (Nat.le_refl _)]
            simp only [Nat.sub_self, List.getElem_cons_zero]
            exact i2
        · dsimp only
          rw [List.flatten_append, List.flatten_cons, List.flatten_nil, List.append_nil]
          unfold Bd
          have := i3
          unfold Bd at this
          rw [head_app hge] at this
          exact this
        · dsimp only
          exact hlast _
      · refine ⟨i1, ?_, ?_⟩
        · dsimp only
          by_cases hn : now = []
          · subst hn
            rw [List.append_nil] at i3
            rw [List.nil_append]
            unfold Bd at i3 ⊢
            rw [head_app hge] at i3
            exact i3
          · unfold Bd at i2 ⊢
            rw [head_app hn]
            exact i2
        · dsimp only
          rw [← List.append_assoc]
          exact hlast _
/-- What the pieces are. -/
theorem cutF_all (size : Int) (l : List S59) : (cutF size l).flatten = l ∧ (∀ p ∈ cutF size l, p ≠ []) ∧ ∀ i, (h : i < (cutF size l).length) → Bd (((cutF size l).take i).flatten) (cutF size l)[i] := by
  obtain ⟨N, hN, hend, _⟩ := exists_N l.length l (Nat.le_refl _)
  obtain ⟨h1, h2⟩ := cutTo_all size l N
  obtain ⟨i1, i2, i3⟩ := cut_inv size l N
  rw [hend, List.append_nil] at h1
  have e := cutF_eq size l N hN hend
  generalize cutF size l = r at e ⊢
  subst e
  generalize cutTo size l N = st at h1 h2 i1 i2 i3 ⊢
  obtain ⟨out, now⟩ := st
  dsimp only at h1 h2 i1 i2 i3 ⊢
  by_cases hn : now = []
  · subst hn
    simp only [if_true]
    rw [List.append_nil] at h1
    exact ⟨h1, h2, i1⟩
  · rw [if_neg hn]
    refine ⟨?_, ?_, fun i hi => ?_⟩
    · rw [List.flatten_append, List.flatten_cons, List.flatten_nil, List.append_nil]; exact h1
    · intro p hp
      rcases List.mem_append.1 hp with hp | hp
      · exact h2 p hp
      · rw [List.mem_singleton.1 hp]; exact hn
    · rw [List.length_append, List.length_singleton] at hi
      by_cases hlt : i < out.length
      · rw [List.take_append_of_le_length (by omega), List.getElem_append_left hlt]
        exact i1 i hlt
      · obtain rfl : i = out.length := by omega
        rw [List.take_left, List.getElem_append_right (Nat.le_refl _)]
        simp only [Nat.sub_self, List.getElem_cons_zero]
        exact i2
theorem sum_gt (a b : Nat) (s : Int) : ((a : Int) + (b : Int) > s ↔ (b : Int) > s - (a : Int)) := by omega
theorem wrap3 (s a b : Nat) (h : s + (a + b + 16) ≤ 1152921504606846976) : wrap64 ((s : Int) + wrap64 (wrap64 ((a : Int) + (b : Int)) + 16)) = ((s + (a + b + 16) : Nat) : Int) := by
  have e1 : wrap64 ((a : Int) + (b : Int)) = ((a + b : Nat) : Int) := by unfold wrap64; omega
  rw [e1]
  have e2 : wrap64 (((a + b : Nat) : Int) + 16) = ((a + b + 16 : Nat) : Int) := by unfold wrap64; omega
  rw [e2]
  unfold wrap64
  omega
theorem size_in (l : List S59) (hg : gsize l ≤ 1152921504606846976) (hl : l.length ≤ 1152921504606846976) (d : Nat) : ∀ (i : Nat), i ≤ l.length → l.length - i = d →
    Ev (fun k => atriumref06_Size.l0 k ((gsize (l.take i) : Nat) : Int) l (l.length : Int) (i : Int)) (gsize l : Nat) := by
  induction d with
  | zero =>
    intro i hi hd
    obtain rfl : i = l.length := by omega
    rw [List.take_length]
    refine Ev.step (f := fun _ => some ((gsize l : Nat) : Int)) (fun k => ?_) (Ev.now _)
    simp only [atriumref06_Size.l0]
    rw [if_neg (by omega)]
  | succ d ih =>
    intro i hi hd
    have c1 : (i : Int) < (l.length : Int) := by omega
    have c2 : (0 : Int) ≤ (i : Int) := by omega
    have htk : l.take (i + 1) = l.take i ++ [l[i]] := List.take_succ_eq_append_getElem (by omega)
    have hgs1 : gsize (l.take (i + 1)) = gsize (l.take i) + (l[i].f0.size + l[i].f2.size + 16) := by rw [htk, gsize_append]; simp [gsize]
    have hgs2 : gsize (l.take (i + 1)) ≤ gsize l := by
      have h := gsize_append (l.take (i + 1)) (l.drop (i + 1))
      rw [List.take_append_drop] at h
      omega
    refine Ev.step (fun k => ?_) (ih (i + 1) (by omega) (by omega))
    simp only [atriumref06_Size.l0]
    rw [if_pos c1, if_pos c2, if_pos c1, wr1 i (by omega), rd59_getElem l i (by omega), hgs1, wrap3 _ _ _ (by omega)]
theorem size_ev (l : List S59) (hg : gsize l ≤ 1152921504606846976) (hl : l.length ≤ 1152921504606846976) : Ev (fun k => atriumref06_Size.f k l) (gsize l : Nat) := size_in l hg hl l.length 0 (Nat.zero_le _) rfl
theorem cut_l1 (l : List S59) (size : Int) (hl : l.length ≤ 2932031007317) (out : List (List S59)) (now : List S59) (i : Nat) (hi : i < l.length) (R : List (List S59)) (d : Nat) : ∀ (m : Nat), m ≤ runLen (l.drop i) → runLen (l.drop i) - m = d →
    Ev (fun k => atriumref10_Cut.j3 k l size out now (i : Int) ((i + runLen (l.drop i) : Nat) : Int)) R → Ev (fun k => atriumref10_Cut.l1 k l size out now (i : Int) ((i + m : Nat) : Int)) R := by
  have hdr : l.drop i = l[i] :: l.drop (i + 1) := by rw [List.drop_eq_getElem_cons hi]
  have hrl := runLen_le (l.drop i)
  rw [List.length_drop] at hrl
  have c0 : (0 : Int) ≤ (i : Int) := by omega
  have c9 : (i : Int) < (l.length : Int) := by omega
  induction d with
  | zero =>
    intro m hm hd h
    obtain rfl : m = runLen (l.drop i) := by omega
    refine Ev.step (fun k => ?_) h
    simp only [atriumref10_Cut.l1]
    by_cases hlt : i + runLen (l.drop i) < l.length
    · have hne : l[i + runLen (l.drop i)].f0.toList ≠ l[i].f0.toList := by
        have h2 := (run_split l[i] (l.drop (i + 1))).2
        rw [← hdr, List.drop_drop] at h2
        have h3 : l.drop (i + runLen (l.drop i)) = l[i + runLen (l.drop i)] :: l.drop (i + runLen (l.drop i) + 1) := by rw [List.drop_eq_getElem_cons hlt]
        rw [h3] at h2
        have := dw_head (p := fun y => decide (y.f0.toList = l[i].f0.toList)) (l.drop (i + 1)) l[i + runLen (l.drop i)] (by rw [← h2]; rfl)
        exact of_decide_eq_false this
      rw [if_pos (by omega), if_pos (by omega), if_pos c0, if_pos c9, rd59_getElem l _ hlt, rd59_getElem l i hi, if_neg hne]
    · rw [if_neg (by omega)]
  | succ d ih =>
    intro m hm hd h
    have hlt : i + m < l.length := by omega
    have he : l[i + m].f0.toList = l[i].f0.toList := by
      have h1 := (run_split l[i] (l.drop (i + 1))).1
      rw [← hdr] at h1
      have h2 : (l.drop i)[m]'(by rw [List.length_drop]; omega) = l[i + m] := by rw [List.getElem_drop]
      have h3 : l[i + m] ∈ (l.drop i).take (runLen (l.drop i)) := by
        rw [← h2]
        rw [List.mem_iff_getElem?]
        exact ⟨m, by rw [List.getElem?_take_of_lt (by omega), List.getElem?_eq_getElem]⟩
      rw [h1] at h3
      rcases List.mem_cons.1 h3 with h3 | h3
      · rw [h3]
      · exact of_decide_eq_true (tw_all (p := fun y => decide (y.f0.toList = l[i].f0.toList)) _ _ h3)
    refine Ev.step (fun k => ?_) (ih (m + 1) (by omega) (by omega) h)
    simp only [atriumref10_Cut.l1]
    rw [if_pos (by omega), if_pos (by omega), if_pos c0, if_pos c9, rd59_getElem l _ hlt, rd59_getElem l i hi, if_pos he, wr1 (i + m) (by omega)]
    rfl
theorem drop_take_grp (l : List S59) (i m : Nat) : ((l.take ((i + m : Nat) : Int).toNat).drop (i : Int).toNat) = (l.drop i).take m := by
  rw [Int.toNat_natCast, Int.toNat_natCast, List.drop_take]
  congr 1
  omega
theorem cut_l0 (l : List S59) (size : Int) (hl : l.length ≤ 2932031007317) (hg : gsize l ≤ 1152921504606846976) (d : Nat) : ∀ (t i : Nat), l.length - i ≤ d → i ≤ l.length → restAt l t = l.drop i →
    Ev (fun k => atriumref10_Cut.l0 k l size (cutTo size l t).1 (cutTo size l t).2 (i : Int)) (cutF size l) := by
  induction d with
  | zero =>
    intro t i hd hi hr
    obtain rfl : i = l.length := by omega
    rw [List.drop_eq_nil_of_le (Nat.le_refl _)] at hr
    obtain ⟨hlen, _⟩ := cutTo_bd size l t
    have hcf : cutF size l = if (cutTo size l t).2 = [] then (cutTo size l t).1 else (cutTo size l t).1 ++ [(cutTo size l t).2] := by
      unfold cutF
      by_cases h : t ≤ l.length
      · have := (cutTo_end size l t hr (l.length - t)).1
        rw [show t + (l.length - t) = l.length by omega] at this
        rw [this]
      · obtain ⟨N, hN, hend, _⟩ := exists_N l.length l (Nat.le_refl _)
        have h1 := (cutTo_end size l N hend (l.length - N)).1
        have h2 := (cutTo_end size l N hend (t - N)).1
        rw [show N + (l.length - N) = l.length by omega] at h1
        rw [show N + (t - N) = t by omega] at h2
        rw [h1, h2]
    rw [hcf]
    refine Ev.step (f := fun _ => some (if (cutTo size l t).2 = [] then (cutTo size l t).1 else (cutTo size l t).1 ++ [(cutTo size l t).2])) (fun k => ?_) (Ev.now _)
    simp only [atriumref10_Cut.l0]
    rw [if_neg (by omega)]
    by_cases hn : (cutTo size l t).2 = []
    · rw [hn]; rw [if_neg (by simp), if_pos rfl]
    · have : 0 < (cutTo size l t).2.length := List.length_pos_iff.2 hn
      rw [if_neg hn, if_pos (by omega), if_pos (by omega)]
  | succ d ih =>
    intro t i hd hi hr
    by_cases hlt : i < l.length
    rotate_left
    · exact ih t i (by omega) hi hr
    have hne : restAt l t ≠ [] := by
      rw [hr]
      intro e
      have := congrArg List.length e
      rw [List.length_drop] at this
      simp at this
      omega
    have hp := runLen_pos' hne
    have hle := runLen_le (restAt l t)
    rw [hr] at hp hle
    rw [List.length_drop] at hle
    have hr' : restAt l (t + 1) = l.drop (i + runLen (l.drop i)) := by
      show (restAt l t).drop (runLen (restAt l t)) = _
      rw [hr, List.drop_drop]
    have hgr : grp l t = (l.drop i).take (runLen (l.drop i)) := by unfold grp; rw [hr]
    obtain ⟨hlen, hgz⟩ := cutTo_bd size l t
    have hgl : (grp l t).length = runLen (l.drop i) := by rw [grp_length, hr]
    have hgne : grp l t ≠ [] := fun e => by rw [e] at hgl; simp at hgl; omega
    have ih' := ih (t + 1) (i + runLen (l.drop i)) (by omega) (by omega) hr'
    have hst : cutTo size l (t + 1) = cutStep size (cutTo size l t) (grp l t) := rfl
    rw [hst] at ih'
    have key : Ev (fun k => atriumref10_Cut.j3 k l size (cutTo size l t).1 (cutTo size l t).2 (i : Int) ((i + runLen (l.drop i) : Nat) : Int)) (cutF size l) := by
      have s1 : Ev (fun k => atriumref06_Size.f k (cutTo size l t).2) (gsize (cutTo size l t).2 : Nat) := size_ev _ (by omega) (by omega)
      have s2 : Ev (fun k => atriumref06_Size.f k (grp l t)) (gsize (grp l t) : Nat) := size_ev _ (by omega) (by omega)
      generalize cutTo size l t = st at ih' hlen hgz s1 ⊢
      obtain ⟨out, now⟩ := st
      dsimp only at ih' hlen hgz s1 ⊢
      have c1 : (0 : Int) ≤ (i : Int) := by omega
      have c2 : (i : Int) ≤ ((i + runLen (l.drop i) : Nat) : Int) := by omega
      have c3 : ((i + runLen (l.drop i) : Nat) : Int) ≤ (l.length : Int) := by omega
      have hG : ((l.take ((i + runLen (l.drop i) : Nat) : Int).toNat).drop (i : Int).toNat) = grp l t := by rw [drop_take_grp, hgr]
      unfold cutStep at ih'
      rw [if_neg hgne] at ih'
      by_cases hn : now = []
      · subst hn
        rw [if_neg (by simp)] at ih'
        refine Ev.step (fun k => ?_) ih'
        simp only [atriumref10_Cut.j3]
        rw [if_neg (by simp), if_pos c1, if_pos c2, if_pos c3, Option.bind_some, hG, if_pos (by simp; omega)]
      · have hnl : 0 < now.length := List.length_pos_iff.2 hn
        refine Ev.step (f := fun k => (atriumref06_Size.f k now).bind fun t298 => ((atriumref06_Size.f k (grp l t)).bind fun t303 => (if (wrap64 (t298 + t303)) > size then atriumref10_Cut.l0 k l size (out ++ [now]) (grp l t) ((i + runLen (l.drop i) : Nat) : Int) else atriumref10_Cut.l0 k l size out (now ++ grp l t) ((i + runLen (l.drop i) : Nat) : Int)))) (fun k => ?_) ?_
        · simp only [atriumref10_Cut.j3]
          rw [if_pos (by omega)]
          congr 1
          funext t298
          rw [if_pos c1, if_pos c2, if_pos c3, hG]
          congr 1
          funext t303
          by_cases hc : wrap64 (t298 + t303) > size
          · rw [if_pos hc, if_pos hc, if_pos (by omega), Option.bind_some, if_pos (by simp; omega), List.nil_append]
          · rw [if_neg hc, if_neg hc, Option.bind_some, if_pos (by omega)]
        · refine Ev.bind s1 (Ev.bind s2 ?_)
          have hw : wrap64 (((gsize now : Nat) : Int) + ((gsize (grp l t) : Nat) : Int)) = ((gsize now : Nat) : Int) + ((gsize (grp l t) : Nat) : Int) := by unfold wrap64; omega
          rw [hw]
          by_cases hc : ((gsize now : Nat) : Int) + ((gsize (grp l t) : Nat) : Int) > size
          · simp only [if_pos hc]
            have hc' := (sum_gt _ _ _).1 hc
            rw [if_pos ⟨hn, hc'⟩] at ih'
            exact ih'
          · simp only [if_neg hc]
            have hc' := fun h => hc ((sum_gt (gsize now) (gsize (grp l t)) size).2 h)
            rw [if_neg (fun h => hc' h.2)] at ih'
            exact ih'
    refine Ev.step (fun k => ?_) (cut_l1 l size hl _ _ i hlt _ _ 0 (Nat.zero_le _) rfl key)
    simp only [atriumref10_Cut.l0]
    rw [if_pos (by omega)]
    rfl
theorem cut_ref (l : List S59) (size : Int) (hl : l.length ≤ 2932031007317) (hg : gsize l ≤ 1152921504606846976) : Ev (fun k => atriumref10_Cut.f k l size) (if sortedF l = true ∧ 1 ≤ size then cutF size l else []) := by
  unfold atriumref10_Cut.f
  refine Ev.bind (sorted_ref l (by omega)) ?_
  cases hs : sortedF l
  · simp only [Bool.false_eq_true, if_false, false_and]
    refine Ev.step (f := fun _ => some []) (fun k => ?_) (Ev.now _)
    simp only [atriumref10_Cut.j0, if_true]
  · simp only [if_true, true_and]
    by_cases hz : size < 1
    · rw [if_neg (by omega), decide_eq_true hz]
      refine Ev.step (f := fun _ => some []) (fun k => ?_) (Ev.now _)
      simp only [atriumref10_Cut.j0, if_true]
    · rw [if_pos (by omega), decide_eq_false hz]
      refine Ev.step (fun k => ?_) (cut_l0 l size hl hg l.length 0 0 (Nat.le_refl _) (Nat.zero_le _) rfl)
      simp only [atriumref10_Cut.j0, Bool.false_eq_true, if_false]
      rfl
end Go.Proofs.Ytdibolblgchpdaa.P
