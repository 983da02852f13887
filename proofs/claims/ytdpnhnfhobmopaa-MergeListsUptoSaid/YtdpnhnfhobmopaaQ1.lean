/- What the printed functions of the merge seat answer, in plain words: order, equality. -/
import Derived.Test.YtdpnhnfhobmopaaH4
import Derived.Test.YtdpnhnfhobmopaaPL0a
import Derived.Lib.Strings
namespace Go.Proofs.Ytdpnhnfhobmopaa.P
open Go.RowKit Go.Proofs.YtdpnhnfhobmopaaW.PrintWords Go.Proofs.YtdpnhnfhobmopaaW.PrintLast Go.Proofs.YtdpnhnfhobmopaaW.PrintMore
set_option linter.unusedVariables false
set_option linter.unusedSimpArgs false

theorem Ev.const_ {α : Type} {a r : α} (h : a = r) : Ev (fun _ => some a) r := by subst h; exact Ev.now _
theorem cb_less : ∀ a b : List UInt8, Op.bytesLess a b = true ↔ Lib.compareBytes a b < 0
  | [], [] => by simp [Op.bytesLess, Lib.compareBytes]
  | [], _ :: _ => by simp [Op.bytesLess, Lib.compareBytes]
  | _ :: _, [] => by simp [Op.bytesLess, Lib.compareBytes]
  | a :: s1, b :: s2 => by
    have ih := cb_less s1 s2
    unfold Lib.compareBytes Op.bytesLess
    by_cases h1 : a < b
    · simp [h1]
    · by_cases h2 : b < a
      · have : ¬ a = b := fun e => by subst e; exact h1 h2
        simp [h1, h2, this]
      · have : a = b := by
          have h3 : a.toNat ≤ b.toNat := Nat.le_of_not_lt (fun h => h2 (UInt8.lt_iff_toNat_lt.2 h))
          have h4 : b.toNat ≤ a.toNat := Nat.le_of_not_lt (fun h => h1 (UInt8.lt_iff_toNat_lt.2 h))
          exact UInt8.toNat_inj.1 (by omega)
        subst this
        simpa [h1] using ih
theorem key_iff (a b : S24) : a.f0.toList = b.f0.toList ↔ Lib.compareBytes a.f0.data.toList b.f0.data.toList = 0 := by
  rw [cb_zero, Lib.toList_data, Lib.toList_data]
theorem cmp_lt_iff (a b : S24) : cmpOf a b < 0 ↔ Lib.compareBytes a.f0.data.toList b.f0.data.toList < 0 ∨ (a.f0.toList = b.f0.toList ∧ b.f1 < a.f1) := by
  rw [key_iff]
  unfold cmpOf
  by_cases h : Lib.compareBytes a.f0.data.toList b.f0.data.toList = 0
  · rw [if_neg (by simpa using h), h]
    by_cases h1 : b.f1 < a.f1
    · simp [h1]
    · rw [if_neg h1]
      by_cases h2 : b.f1 > a.f1
      · rw [if_pos h2]; simp; omega
      · rw [if_neg h2]; simp; omega
  · rw [if_pos h]
    constructor
    · intro h1; exact .inl h1
    · rintro (h1 | ⟨h1, _⟩)
      · exact h1
      · exact absurd h1 h
theorem less_ref (a b : S24) : atriumref06_Less.f a.f0 a.f1 a.f2 a.f3 b.f0 b.f1 b.f2 b.f3 = some (decide (cmpOf a b < 0)) := by
  unfold atriumref06_Less.f
  have h := cmp_lt_iff a b
  by_cases h1 : Op.bytesLess a.f0.toList b.f0.toList = true
  · rw [if_pos h1]
    rw [Lib.toList_data, Lib.toList_data, cb_less] at h1
    rw [decide_eq_true (h.2 (.inl h1))]
  · rw [if_neg h1]
    rw [Lib.toList_data, Lib.toList_data, cb_less] at h1
    by_cases h2 : a.f0.toList = b.f0.toList
    · rw [if_pos h2]
      congr 1
      rw [decide_eq_decide, h]
      constructor
      · intro h3; exact .inr ⟨h2, h3⟩
      · rintro (h3 | h3)
        · exact absurd h3 h1
        · exact h3.2
    · rw [if_neg h2]
      rw [decide_eq_false]
      rintro h3
      rcases h.1 h3 with h3 | h3
      · exact h1 h3
      · exact h2 h3.1
theorem wr1 (i : Nat) (h : i ≤ 4611686018427387904) : wrap64 ((i : Int) + 1) = ((i + 1 : Nat) : Int) := by unfold wrap64; omega
theorem sorted_ref0 (l : List S24) (hl : l.length ≤ 1152921504606846976) (d : Nat) : ∀ i : Nat, i + 1 ≤ l.length → l.length - (i + 1) = d →
    Ev (fun k => atriumref10_Sorted.l0 k l ((i + 1 : Nat) : Int)) (sortedF (l.drop i)) := by
  induction d with
  | zero =>
    intro i hi hd
    have e : l.drop i = [l[i]'(by omega)] := by
      rw [List.drop_eq_getElem_cons (by omega), List.drop_eq_nil_of_le (by omega)]
    rw [e]
    refine Ev.step (f := fun _ => some true) (fun k => ?_) (Ev.now _)
    simp only [atriumref10_Sorted.l0]
    rw [if_neg (by omega)]
  | succ d ih =>
    intro i hi hd
    have hi1 : i + 1 < l.length := by omega
    have w1 : wrap64 (((i + 1 : Nat) : Int) - 1) = (i : Int) := by unfold wrap64; omega
    have w2 : wrap64 (((i + 1 : Nat) : Int) + 1) = ((i + 1 + 1 : Nat) : Int) := wr1 _ (by omega)
    have c1 : ((i + 1 : Nat) : Int) < (l.length : Int) := by omega
    have c2 : (0 : Int) ≤ (i : Int) := by omega
    have c3 : (i : Int) < (l.length : Int) := by omega
    have c4 : (0 : Int) ≤ ((i + 1 : Nat) : Int) := by omega
    have e : l.drop i = l[i] :: l[i + 1] :: l.drop (i + 1 + 1) := by
      rw [List.drop_eq_getElem_cons (by omega), List.drop_eq_getElem_cons (by omega)]
    have e2 : l.drop (i + 1) = l[i + 1] :: l.drop (i + 1 + 1) := by rw [List.drop_eq_getElem_cons (by omega)]
    have hs : sortedF (l.drop i) = (decide (cmpOf l[i] l[i + 1] < 0) && sortedF (l.drop (i + 1))) := by rw [e, e2]; rfl
    rw [hs]
    by_cases hb : cmpOf l[i] l[i + 1] < 0
    · rw [decide_eq_true hb, Bool.true_and]
      refine Ev.step (f := fun k => atriumref10_Sorted.l0 k l ((i + 1 + 1 : Nat) : Int)) (fun k => ?_) (ih (i + 1) (by omega) (by omega))
      simp only [atriumref10_Sorted.l0]
      rw [w1, w2, if_pos c1, if_pos c2, if_pos c3, if_pos c4, rd24_getElem l i (by omega), rd24_getElem l (i + 1) hi1, less_ref, Option.bind_some, decide_eq_true hb, if_pos rfl]
    · rw [decide_eq_false hb, Bool.false_and]
      refine Ev.step (f := fun _ => some false) (fun k => ?_) (Ev.now _)
      simp only [atriumref10_Sorted.l0]
      rw [w1, w2, if_pos c1, if_pos c2, if_pos c3, if_pos c4, rd24_getElem l i (by omega), rd24_getElem l (i + 1) hi1, less_ref, Option.bind_some, decide_eq_false hb, if_neg (by decide)]
theorem sorted_ref (l : List S24) (hl : l.length ≤ 1152921504606846976) : Ev (fun k => atriumref10_Sorted.f k l) (sortedF l) := by
  unfold atriumref10_Sorted.f
  cases h : l with
  | nil =>
    refine Ev.step (f := fun _ => some true) (fun k => ?_) (Ev.now _)
    simp only [atriumref10_Sorted.l0]
    rw [if_neg (by simp)]
  | cons a t =>
    have h1 := sorted_ref0 (a :: t) (by rw [← h]; exact hl) t.length 0 (by simp) (by simp)
    exact h1
theorem sorted_ev (l : List S24) (hl : l.length ≤ 1152921504606846976) : Ev (fun k => merge_Sorted.f k l) (sortedF l) := Ev.of (fun k => merge_Sorted.mono l k) (sorted_val l hl)
theorem same0 (l : List S24) (hl : l.length ≤ 1152921504606846976) (d : Nat) : ∀ i : Nat, i ≤ l.length → l.length - i = d → Ev (fun k => atriumlaw10_same.l0 k l l (l.length : Int) (i : Int)) true := by
  induction d with
  | zero =>
    intro i hi hd
    refine Ev.step (f := fun _ => some true) (fun k => ?_) (Ev.now _)
    simp only [atriumlaw10_same.l0]
    rw [if_neg (by omega)]
  | succ d ih =>
    intro i hi hd
    refine Ev.step (f := fun k => atriumlaw10_same.l0 k l l (l.length : Int) ((i + 1 : Nat) : Int)) (fun k => ?_) (ih (i + 1) (by omega) (by omega))
    have c1 : (i : Int) < (l.length : Int) := by omega
    have c2 : (0 : Int) ≤ (i : Int) := by omega
    simp only [atriumlaw10_same.l0]
    rw [if_pos c1, if_pos c2, if_pos c1, if_pos c1, if_neg (by simp), wr1 i (by omega)]
theorem same_ev (l : List S24) (hl : l.length ≤ 1152921504606846976) : Ev (fun k => atriumlaw10_same.f k l l) true := by
  refine Ev.congr (f := fun k => atriumlaw10_same.l0 k l l (l.length : Int) ((0 : Nat) : Int)) (fun k => ?_) (same0 l hl l.length 0 (Nat.zero_le _) rfl)
  unfold atriumlaw10_same.f
  rw [if_pos rfl]
  rfl
/-- Is there one of c's key ahead of it that is to be seen at q? -/
def blocks (q : Int) (pre : List S24) (c : S24) : Bool := pre.any fun d => decide (d.f0.toList = c.f0.toList) && decide (d.f1 ≤ q)
theorem blocks_cons (q : Int) (d : S24) (pre : List S24) (c : S24) : blocks q (d :: pre) c = ((decide (d.f0.toList = c.f0.toList) && decide (d.f1 ≤ q)) || blocks q pre c) := rfl
def visR (q : Int) (pre : List S24) : List S24 → List S24
  | [] => []
  | c :: l => (if (decide (c.f1 ≤ q) && !blocks q pre c && !c.f3) = true then [c] else []) ++ visR q (pre ++ [c]) l
def dropR (o : Int) (b : Bool) (pre : List S24) : List S24 → List S24
  | [] => []
  | c :: l => (if (decide (c.f1 > o) || (decide (c.f1 ≤ o) && !blocks o pre c && !(b && c.f3))) = true then [c] else []) ++ dropR o b (pre ++ [c]) l
theorem visR_len (q : Int) : ∀ (l pre : List S24), (visR q pre l).length ≤ l.length
  | [], _ => Nat.le_refl _
  | c :: l, pre => by
    have := visR_len q l (pre ++ [c])
    unfold visR
    rw [List.length_append, List.length_cons]
    split <;> simp <;> omega
theorem dropR_len (o : Int) (b : Bool) : ∀ (l pre : List S24), (dropR o b pre l).length ≤ l.length
  | [], _ => Nat.le_refl _
  | c :: l, pre => by
    have := dropR_len o b l (pre ++ [c])
    unfold dropR
    rw [List.length_append, List.length_cons]
    split <;> simp <;> omega
end Go.Proofs.Ytdpnhnfhobmopaa.P
