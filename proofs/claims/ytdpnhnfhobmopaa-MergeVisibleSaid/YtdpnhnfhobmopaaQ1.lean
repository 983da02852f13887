/- What the printed functions of the merge seat answer, in plain words: order, equality, Visible and Drop of the reference. -/
import Derived.Test.YtdpnhnfhobmopaaH4
import Derived.Test.YtdpnhnfhobmopaaPL0c
import Derived.Lib.Strings
namespace Go.Proofs.Ytdpnhnfhobmopaa.P
open Go.RowKit Go.Proofs.YtdpnhnfhobmopaaW.PrintWords Go.Proofs.YtdpnhnfhobmopaaW.PrintLast Go.Proofs.YtdpnhnfhobmopaaW.PrintMore
set_option linter.unusedVariables false
set_option linter.unusedSimpArgs false

theorem Ev.const_ {α : Type} {a r : α} (h : a = r) : Ev (fun _ => some a) r := by subst h; exact Ev.now _
theorem cb_less : ∀ a b : List UInt8, Op.bytesLess a b = true ↔ Lib.compareBytes a b < 0
  | [], [] => by simp [Op.bytesLess, Lib.compareBytes]
  | [], _ :: _ => by simp [Op.bytesLess, Lib.compareBytes]
  | _ :: _, [] => by simp [Op.bytesLess, Lib.compareBytes]
  | a :: s1, b :: s2 => by
    have ih := cb_less s1 s2
    unfold Lib.compareBytes Op.bytesLess
    by_cases h1 : a < b
    · simp [h1]
    · by_cases h2 : b < a
      · have : ¬ a = b := fun e => by subst e; exact h1 h2
        simp [h1, h2, this]
      · have : a = b := by
          have h3 : a.toNat ≤ b.toNat := Nat.le_of_not_lt (fun h => h2 (UInt8.lt_iff_toNat_lt.2 h))
          have h4 : b.toNat ≤ a.toNat := Nat.le_of_not_lt (fun h => h1 (UInt8.lt_iff_toNat_lt.2 h))
          exact UInt8.toNat_inj.1 (by omega)
        subst this
        simpa [h1] using ih
theorem key_iff (a b : S24) : a.f0.toList = b.f0.toList ↔ Lib.compareBytes a.f0.data.toList b.f0.data.toList = 0 := by
  rw [cb_zero, Lib.toList_data, Lib.toList_data]
theorem cmp_lt_iff (a b : S24) : cmpOf a b < 0 ↔ Lib.compareBytes a.f0.data.toList b.f0.data.toList < 0 ∨ (a.f0.toList = b.f0.toList ∧ b.f1 < a.f1) := by
  rw [key_iff]
  unfold cmpOf
  by_cases h : Lib.compareBytes a.f0.data.toList b.f0.data.toList = 0
  · rw [if_neg (by simpa using h), h]
    by_cases h1 : b.f1 < a.f1
    · simp [h1]
    · rw [if_neg h1]
      by_cases h2 : b.f1 > a.f1
      · rw [if_pos h2]; simp; omega
      · rw [if_neg h2]; simp; omega
  · rw [if_pos h]
    constructor
    · intro h1; exact .inl h1
    · rintro (h1 | ⟨h1, _⟩)
      · exact h1
      · exact absurd h1 h
theorem less_ref (a b : S24) : atriumref06_Less.f a.f0 a.f1 a.f2 a.f3 b.f0 b.f1 b.f2 b.f3 = some (decide (cmpOf a b < 0)) := by
  unfold atriumref06_Less.f
  have h := cmp_lt_iff a b
  by_cases h1 : Op.bytesLess a.f0.toList b.f0.toList = true
  · rw [if_pos h1]
    rw [Lib.toList_data, Lib.toList_data, cb_less] at h1
    rw [decide_eq_true (h.2 (.inl h1))]
  · rw [if_neg h1]
    rw [Lib.toList_data, Lib.toList_data, cb_less] at h1
    by_cases h2 : a.f0.toList = b.f0.toList
    · rw [if_pos h2]
      congr 1
      rw [decide_eq_decide, h]
      constructor
      · intro h3; exact .inr ⟨h2, h3⟩
      · rintro (h3 | h3)
        · exact absurd h3 h1
        · exact h3.2
    · rw [if_neg h2]
      rw [decide_eq_false]
      rintro h3
      rcases h.1 h3 with h3 | h3
      · exact h1 h3
      · exact h2 h3.1
theorem wr1 (i : Nat) (h : i ≤ 4611686018427387904) : wrap64 ((i : Int) + 1) = ((i + 1 : Nat) : Int) := by unfold wrap64; omega
theorem sorted_ref0 (l : List S24) (hl : l.length ≤ 1152921504606846976) (d : Nat) : ∀ i : Nat, i + 1 ≤ l.length → l.length - (i + 1) = d →
    Ev (fun k => atriumref10_Sorted.l0 k l ((i + 1 : Nat) : Int)) (sortedF (l.drop i)) := by
  induction d with
  | zero =>
    intro i hi hd
    have e : l.drop i = [l[i]'(by omega)] := by
      rw [List.drop_eq_getElem_cons (by omega), List.drop_eq_nil_of_le (by omega)]
    rw [e]
    refine Ev.step (f := fun _ => some true) (fun k => ?_) (Ev.now _)
    simp only [atriumref10_Sorted.l0]
    rw [if_neg (by omega)]
  | succ d ih =>
    intro i hi hd
    have hi1 : i + 1 < l.length := by omega
    have w1 : wrap64 (((i + 1 : Nat) : Int) - 1) = (i : Int) := by unfold wrap64; omega
    have w2 : wrap64 (((i + 1 : Nat) : Int) + 1) = ((i + 1 + 1 : Nat) : Int) := wr1 _ (by omega)
    have c1 : ((i + 1 : Nat) : Int) < (l.length : Int) := by omega
    have c2 : (0 : Int) ≤ (i : Int) := by omega
    have c3 : (i : Int) < (l.length : Int) := by omega
    have c4 : (0 : Int) ≤ ((i + 1 : Nat) : Int) := by omega
    have e : l.drop i = l[i] :: l[i + 1] :: l.drop (i + 1 + 1) := by
      rw [List.drop_eq_getElem_cons (by omega), List.drop_eq_getElem_cons (by omega)]
    have e2 : l.drop (i + 1) = l[i + 1] :: l.drop (i + 1 + 1) := by rw [List.drop_eq_getElem_cons (by omega)]
    have hs : sortedF (l.drop i) = (decide (cmpOf l[i] l[i + 1] < 0) && sortedF (l.drop (i + 1))) := by rw [e, e2]; rfl
    rw [hs]
    by_cases hb : cmpOf l[i] l[i + 1] < 0
    · rw [decide_eq_true hb, Bool.true_and]
      refine Ev.step (f := fun k => atriumref10_Sorted.l0 k l ((i + 1 + 1 : Nat) : Int)) (fun k => ?_) (ih (i + 1) (by omega) (by omega))
      simp only [atriumref10_Sorted.l0]
      rw [w1, w2, if_pos c1, if_pos c2, if_pos c3, if_pos c4, rd24_getElem l i (by omega), rd24_getElem l (i + 1) hi1, less_ref, Option.bind_some, decide_eq_true hb, if_pos rfl]
    · rw [decide_eq_false hb, Bool.false_and]
      refine Ev.step (f := fun _ => some false) (fun k => ?_) (Ev.now _)
      simp only [atriumref10_Sorted.l0]
      rw [w1, w2, if_pos c1, if_pos c2, if_pos c3, if_pos c4, rd24_getElem l i (by omega), rd24_getElem l (i + 1) hi1, less_ref, Option.bind_some, decide_eq_false hb, if_neg (by decide)]
theorem sorted_ref (l : List S24) (hl : l.length ≤ 1152921504606846976) : Ev (fun k => atriumref10_Sorted.f k l) (sortedF l) := by
  unfold atriumref10_Sorted.f
  cases h : l with
  | nil =>
    refine Ev.step (f := fun _ => some true) (fun k => ?_) (Ev.now _)
    simp only [atriumref10_Sorted.l0]
    rw [if_neg (by simp)]
  | cons a t =>
    have h1 := sorted_ref0 (a :: t) (by rw [← h]; exact hl) t.length 0 (by simp) (by simp)
    exact h1
theorem sorted_ev (l : List S24) (hl : l.length ≤ 1152921504606846976) : Ev (fun k => merge_Sorted.f k l) (sortedF l) := Ev.of (fun k => merge_Sorted.mono l k) (sorted_val l hl)
theorem same0 (l : List S24) (hl : l.length ≤ 1152921504606846976) (d : Nat) : ∀ i : Nat, i ≤ l.length → l.length - i = d → Ev (fun k => atriumlaw10_same.l0 k l l (l.length : Int) (i : Int)) true := by
  induction d with
  | zero =>
    intro i hi hd
    refine Ev.step (f := fun _ => some true) (fun k => ?_) (Ev.now _)
    simp only [atriumlaw10_same.l0]
    rw [if_neg (by omega)]
  | succ d ih =>
    intro i hi hd
    refine Ev.step (f := fun k => atriumlaw10_same.l0 k l l (l.length : Int) ((i + 1 : Nat) : Int)) (fun k => ?_) (ih (i + 1) (by omega) (by omega))
    have c1 : (i : Int) < (l.length : Int) := by omega
    have c2 : (0 : Int) ≤ (i : Int) := by omega
    simp only [atriumlaw10_same.l0]
    rw [if_pos c1, if_pos c2, if_pos c1, if_pos c1, if_neg (by simp), wr1 i (by omega)]
theorem same_ev (l : List S24) (hl : l.length ≤ 1152921504606846976) : Ev (fun k => atriumlaw10_same.f k l l) true := by
  refine Ev.congr (f := fun k => atriumlaw10_same.l0 k l l (l.length : Int) ((0 : Nat) : Int)) (fun k => ?_) (same0 l hl l.length 0 (Nat.zero_le _) rfl)
  unfold atriumlaw10_same.f
  rw [if_pos rfl]
  rfl
/-- Is there one of c's key ahead of it that is to be seen at q? -/
def blocks (q : Int) (pre : List S24) (c : S24) : Bool := pre.any fun d => decide (d.f0.toList = c.f0.toList) && decide (d.f1 ≤ q)
theorem blocks_cons (q : Int) (d : S24) (pre : List S24) (c : S24) : blocks q (d :: pre) c = ((decide (d.f0.toList = c.f0.toList) && decide (d.f1 ≤ q)) || blocks q pre c) := rfl
def visR (q : Int) (pre : List S24) : List S24 → List S24
  | [] => []
  | c :: l => (if (decide (c.f1 ≤ q) && !blocks q pre c && !c.f3) = true then [c] else []) ++ visR q (pre ++ [c]) l
def dropR (o : Int) (b : Bool) (pre : List S24) : List S24 → List S24
  | [] => []
  | c :: l => (if (decide (c.f1 > o) || (decide (c.f1 ≤ o) && !blocks o pre c && !(b && c.f3))) = true then [c] else []) ++ dropR o b (pre ++ [c]) l
theorem visR_len (q : Int) : ∀ (l pre : List S24), (visR q pre l).length ≤ l.length
  | [], _ => Nat.le_refl _
  | c :: l, pre => by
    have := visR_len q l (pre ++ [c])
    unfold visR
    rw [List.length_append, List.length_cons]
    split <;> simp <;> omega
theorem dropR_len (o : Int) (b : Bool) : ∀ (l pre : List S24), (dropR o b pre l).length ≤ l.length
  | [], _ => Nat.le_refl _
  | c :: l, pre => by
    have := dropR_len o b l (pre ++ [c])
    unfold dropR
    rw [List.length_append, List.length_cons]
    split <;> simp <;> omega
theorem vis_in (l : List S24) (q : Int) (out : List S24) (i : Nat) (pre : List S24) (c : S24) (R : List S24) (hpl : pre.length ≤ 1152921504606846976) (hi : i ≤ 1152921504606846976) (hout : out.length < 2932031007402) (d : Nat) : ∀ (j : Nat) (x8 : Bool), j ≤ pre.length → pre.length - j = d →
    Ev (fun k => atriumref10_Visible.l0 k l q (out ++ if (x8 && !blocks q (pre.drop j) c && !c.f3) = true then [c] else []) l (l.length : Int) ((i + 1 : Nat) : Int)) R →
    Ev (fun k => atriumref10_Visible.l1 k l q out x8 l (l.length : Int) (i : Int) pre (pre.length : Int) (j : Int) c.f0 c.f1 c.f2 c.f3) R := by
  induction d with
  | zero =>
    intro j x8 hj hd h
    rw [List.drop_eq_nil_of_le (by omega), show blocks q [] c = false from rfl] at h
    refine Ev.step (fun k => ?_) h
    simp only [atriumref10_Visible.l1]
    rw [if_neg (by omega), wr1 i (by omega)]
    cases x8
    · simp
    · cases hc : c.f3
      · simp [hout, hc]
        obtain ⟨f0, f1, f2, f3⟩ := c
        simp at hc
        subst hc
        rfl
      · simp [hc]
  | succ d ih =>
    intro j x8 hj hd h
    have c1 : (j : Int) < (pre.length : Int) := by omega
    have c2 : (0 : Int) ≤ (j : Int) := by omega
    have hdr : pre.drop j = pre[j] :: pre.drop (j + 1) := by rw [List.drop_eq_getElem_cons (by omega)]
    rw [hdr, blocks_cons] at h
    have h2 := ih (j + 1) (x8 && !(decide (pre[j].f0.toList = c.f0.toList) && decide (pre[j].f1 ≤ q))) (by omega) (by omega) (by
      have e : (x8 && !(decide (pre[j].f0.toList = c.f0.toList) && decide (pre[j].f1 ≤ q)) && !blocks q (pre.drop (j + 1)) c) = (x8 && !((decide (pre[j].f0.toList = c.f0.toList) && decide (pre[j].f1 ≤ q)) || blocks q (pre.drop (j + 1)) c)) := by
        rw [Bool.not_or, Bool.and_assoc]
      rw [e]
      exact h)
    refine Ev.step (fun k => ?_) h2
    simp only [atriumref10_Visible.l1]
    rw [if_pos c1, if_pos c2, if_pos c1, wr1 j (by omega), rd24_getElem pre j (by omega)]
    cases x8
    · rw [if_neg (by decide)]; rfl
    · rw [if_pos rfl]
      by_cases hk : pre[j].f0.toList = c.f0.toList
      · rw [if_pos hk, decide_eq_true hk]; rfl
      · rw [if_neg hk, decide_eq_false hk]; rfl
theorem vis_out (l : List S24) (q : Int) (hl : l.length ≤ 2932031007317) (d : Nat) : ∀ (i : Nat) (out : List S24), i ≤ l.length → out.length ≤ i → l.length - i = d →
    Ev (fun k => atriumref10_Visible.l0 k l q out l (l.length : Int) (i : Int)) (out ++ visR q (l.take i) (l.drop i)) := by
  induction d with
  | zero =>
    intro i out hi ho hd
    rw [List.drop_eq_nil_of_le (by omega)]
    refine Ev.step (f := fun _ => some out) (fun k => ?_) (Ev.const_ (by simp [visR]))
    simp only [atriumref10_Visible.l0]
    rw [if_neg (by omega)]
  | succ d ih =>
    intro i out hi ho hd
    have c1 : (i : Int) < (l.length : Int) := by omega
    have c2 : (0 : Int) ≤ (i : Int) := by omega
    have c3 : (i : Int) ≤ (l.length : Int) := by omega
    have hdr : l.drop i = l[i] :: l.drop (i + 1) := by rw [List.drop_eq_getElem_cons (by omega)]
    have htk : l.take (i + 1) = l.take i ++ [l[i]] := List.take_succ_eq_append_getElem (by omega)
    rw [hdr]
    unfold visR
    rw [← List.append_assoc, ← htk]
    have h2 := ih (i + 1) (out ++ if (decide (l[i].f1 ≤ q) && !blocks q (l.take i) l[i] && !l[i].f3) = true then [l[i]] else []) (by omega) (by rw [List.length_append]; split <;> simp <;> omega) (by omega)
    have h3 := vis_in l q out i (l.take i) l[i] _ (by rw [List.length_take]; omega) (by omega) (by omega) _ 0 (decide (l[i].f1 ≤ q)) (Nat.zero_le _) rfl h2
    refine Ev.step (fun k => ?_) h3
    simp only [atriumref10_Visible.l0]
    rw [if_pos c1, if_pos c2, if_pos c1, if_pos c3, Option.bind_some, rd24_getElem l i (by omega)]
    rfl
theorem visible_ref (l : List S24) (q : Int) (hl : l.length ≤ 2932031007317) : Ev (fun k => atriumref10_Visible.f k l q) (if sortedF l = true then visR q [] l else []) := by
  unfold atriumref10_Visible.f
  refine Ev.bind (sorted_ref l (by omega)) ?_
  cases hs : sortedF l
  · simp only [Bool.false_eq_true, if_false]; exact Ev.now _
  · simp only [if_true]
    have := vis_out l q hl l.length 0 [] (Nat.zero_le _) (Nat.le_refl _) rfl
    exact this
theorem drop_in (l : List S24) (o : Int) (b : Bool) (out : List S24) (i : Nat) (pre : List S24) (c : S24) (R : List S24) (hpl : pre.length ≤ 1152921504606846976) (hi : i ≤ 1152921504606846976) (hout : out.length < 2932031007402) (d : Nat) : ∀ (j : Nat) (x8 : Bool), j ≤ pre.length → pre.length - j = d →
    Ev (fun k => atriumref10_Drop.l0 k l o b (out ++ if (decide (c.f1 > o) || (x8 && !blocks o (pre.drop j) c && !(b && c.f3))) = true then [c] else []) l (l.length : Int) ((i + 1 : Nat) : Int)) R →
    Ev (fun k => atriumref10_Drop.l1 k l o b out x8 l (l.length : Int) (i : Int) pre (pre.length : Int) (j : Int) c.f0 c.f1 c.f2 c.f3) R := by
  induction d with
  | zero =>
    intro j x8 hj hd h
    rw [List.drop_eq_nil_of_le (by omega), show blocks o [] c = false from rfl] at h
    refine Ev.step (fun k => ?_) h
    simp only [atriumref10_Drop.l1]
    rw [if_neg (by omega), wr1 i (by omega)]
    obtain ⟨f0, f1, f2, f3⟩ := c
    dsimp only
    by_cases hgt : f1 > o
    · rw [if_pos hgt, if_pos hout]; simp [hgt]
    · rw [if_neg hgt]
      cases x8
      · simp [hgt]
      · cases b <;> cases f3 <;> simp [hgt, hout]
  | succ d ih =>
    intro j x8 hj hd h
    have c1 : (j : Int) < (pre.length : Int) := by omega
    have c2 : (0 : Int) ≤ (j : Int) := by omega
    have hdr : pre.drop j = pre[j] :: pre.drop (j + 1) := by rw [List.drop_eq_getElem_cons (by omega)]
    rw [hdr, blocks_cons] at h
    have h2 := ih (j + 1) (x8 && !(decide (pre[j].f0.toList = c.f0.toList) && decide (pre[j].f1 ≤ o))) (by omega) (by omega) (by
      have e : (x8 && !(decide (pre[j].f0.toList = c.f0.toList) && decide (pre[j].f1 ≤ o)) && !blocks o (pre.drop (j + 1)) c) = (x8 && !((decide (pre[j].f0.toList = c.f0.toList) && decide (pre[j].f1 ≤ o)) || blocks o (pre.drop (j + 1)) c)) := by
        rw [Bool.not_or, Bool.and_assoc]
      rw [e]
      exact h)
    refine Ev.step (fun k => ?_) h2
    simp only [atriumref10_Drop.l1]
    rw [if_pos c1, if_pos c2, if_pos c1, wr1 j (by omega), rd24_getElem pre j (by omega)]
    cases x8
    · rw [if_neg (by decide)]; rfl
    · rw [if_pos rfl]
      by_cases hk : pre[j].f0.toList = c.f0.toList
      · rw [if_pos hk, decide_eq_true hk]; rfl
      · rw [if_neg hk, decide_eq_false hk]; rfl
theorem drop_out (l : List S24) (o : Int) (b : Bool) (hl : l.length ≤ 2932031007317) (d : Nat) : ∀ (i : Nat) (out : List S24), i ≤ l.length → out.length ≤ i → l.length - i = d →
    Ev (fun k => atriumref10_Drop.l0 k l o b out l (l.length : Int) (i : Int)) (out ++ dropR o b (l.take i) (l.drop i)) := by
  induction d with
  | zero =>
    intro i out hi ho hd
    rw [List.drop_eq_nil_of_le (by omega)]
    refine Ev.step (f := fun _ => some out) (fun k => ?_) (Ev.const_ (by simp [dropR]))
    simp only [atriumref10_Drop.l0]
    rw [if_neg (by omega)]
  | succ d ih =>
    intro i out hi ho hd
    have c1 : (i : Int) < (l.length : Int) := by omega
    have c2 : (0 : Int) ≤ (i : Int) := by omega
    have c3 : (i : Int) ≤ (l.length : Int) := by omega
    have hdr : l.drop i = l[i] :: l.drop (i + 1) := by rw [List.drop_eq_getElem_cons (by omega)]
    have htk : l.take (i + 1) = l.take i ++ [l[i]] := List.take_succ_eq_append_getElem (by omega)
    rw [hdr]
    unfold dropR
    rw [← List.append_assoc, ← htk]
    have h2 := ih (i + 1) (out ++ if (decide (l[i].f1 > o) || (decide (l[i].f1 ≤ o) && !blocks o (l.take i) l[i] && !(b && l[i].f3))) = true then [l[i]] else []) (by omega) (by rw [List.length_append]; split <;> simp <;> omega) (by omega)
    have h3 := drop_in l o b out i (l.take i) l[i] _ (by rw [List.length_take]; omega) (by omega) (by omega) _ 0 (decide (l[i].f1 ≤ o)) (Nat.zero_le _) rfl h2
    refine Ev.step (fun k => ?_) h3
    simp only [atriumref10_Drop.l0]
    rw [if_pos c1, if_pos c2, if_pos c1, if_pos c3, Option.bind_some, rd24_getElem l i (by omega)]
    rfl
theorem drop_ref (l : List S24) (o : Int) (b : Bool) (hl : l.length ≤ 2932031007317) : Ev (fun k => atriumref10_Drop.f k l o b) (if sortedF l = true then dropR o b [] l else []) := by
  unfold atriumref10_Drop.f
  refine Ev.bind (sorted_ref l (by omega)) ?_
  cases hs : sortedF l
  · simp only [Bool.false_eq_true, if_false]; exact Ev.now _
  · simp only [if_true]
    have := drop_out l o b hl l.length 0 [] (Nat.zero_le _) (Nat.le_refl _) rfl
    exact this
end Go.Proofs.Ytdpnhnfhobmopaa.P
