/- Plain mathematics: the order of the cells, and the root of at most three heads. -/
import Derived.Test.YtdpnhnfhobmopaaH1c
namespace Go.Proofs.Ytdpnhnfhobmopaa.P
open Go.RowKit Go.Proofs.YtdpnhnfhobmopaaW.PrintWords Go.Proofs.YtdpnhnfhobmopaaW.PrintLast Go.Proofs.YtdpnhnfhobmopaaW.PrintMore
set_option linter.unusedVariables false
set_option linter.unusedSimpArgs false

theorem cb_zero : ∀ a b : List UInt8, Lib.compareBytes a b = 0 ↔ a = b
  | [], [] => by simp [Lib.compareBytes]
  | [], _ :: _ => by simp [Lib.compareBytes]
  | _ :: _, [] => by simp [Lib.compareBytes]
  | x :: a, y :: b => by
    have ih := cb_zero a b
    unfold Lib.compareBytes
    by_cases h1 : x < y
    · rw [if_pos h1]
      constructor
      · intro h; omega
      · intro h; injection h with h2 h3; subst h2; exact absurd h1 (UInt8.lt_irrefl x)
    · rw [if_neg h1]
      by_cases h2 : y < x
      · rw [if_pos h2]
        constructor
        · intro h; omega
        · intro h; injection h with h3 h4; subst h3; exact absurd h2 (UInt8.lt_irrefl x)
      · rw [if_neg h2, ih]
        have e : x = y := UInt8.le_antisymm (UInt8.not_lt.1 h2) (UInt8.not_lt.1 h1)
        subst e
        simp
theorem cb_swap : ∀ a b : List UInt8, Lib.compareBytes b a = - Lib.compareBytes a b
  | [], [] => rfl
  | [], _ :: _ => rfl
  | _ :: _, [] => rfl
  | x :: a, y :: b => by
    have ih := cb_swap a b
    unfold Lib.compareBytes
    by_cases h1 : x < y
    · have h2 : ¬ y < x := fun h => UInt8.lt_irrefl x (UInt8.lt_trans h1 h)
      rw [if_neg h2, if_pos h1, if_pos h1]
      rfl
    · by_cases h2 : y < x
      · rw [if_pos h2, if_neg h1, if_pos h2]
      · rw [if_neg h2, if_neg h1, if_neg h1, if_neg h2, ih]
theorem cb_trans : ∀ a b c : List UInt8, Lib.compareBytes a b ≤ 0 → Lib.compareBytes b c ≤ 0 → Lib.compareBytes a c ≤ 0
  | [], _, [] => by intros; decide
  | [], _, _ :: _ => by intros; simp [Lib.compareBytes]
  | _ :: _, [], _ => by intro h; simp [Lib.compareBytes] at h
  | _ :: _, _ :: _, [] => by intro _ h; simp [Lib.compareBytes] at h
  | x :: a, y :: b, z :: c => by
    have ih := cb_trans a b c
    intro h1 h2
    unfold Lib.compareBytes at h1 h2 ⊢
    by_cases hxy : x < y
    · by_cases hyz : y < z
      · rw [if_pos (UInt8.lt_trans hxy hyz)]; omega
      · rw [if_neg hyz] at h2
        by_cases hzy : z < y
        · rw [if_pos hzy] at h2; omega
        · have e : y = z := UInt8.le_antisymm (UInt8.not_lt.1 hzy) (UInt8.not_lt.1 hyz)
          subst e
          rw [if_pos hxy]; omega
    · rw [if_neg hxy] at h1
      by_cases hyx : y < x
      · rw [if_pos hyx] at h1; omega
      · rw [if_neg hyx] at h1
        have e : x = y := UInt8.le_antisymm (UInt8.not_lt.1 hyx) (UInt8.not_lt.1 hxy)
        subst e
        by_cases hyz : x < z
        · rw [if_pos hyz]; omega
        · rw [if_neg hyz] at h2 ⊢
          by_cases hzy : z < x
          · rw [if_pos hzy] at h2; omega
          · rw [if_neg hzy] at h2 ⊢
            exact ih h1 h2
theorem cmp_swap (a b : S24) : cmpOf b a = - cmpOf a b := by
  unfold cmpOf
  rw [cb_swap a.f0.data.toList b.f0.data.toList]
  generalize Lib.compareBytes a.f0.data.toList b.f0.data.toList = x
  by_cases hx : x = 0
  · subst hx
    simp only [Int.neg_zero, ne_eq, not_true_eq_false, if_false]
    by_cases h1 : a.f1 < b.f1
    · have h2 : ¬ b.f1 < a.f1 := by omega
      simp [h1, h2]
    · by_cases h2 : b.f1 < a.f1
      · simp [h1, h2]
      · simp [h1, h2]
  · have hx' : -x ≠ 0 := by omega
    simp [hx, hx']
theorem cmp_self (a : S24) : cmpOf a a = 0 := by have := cmp_swap a a; omega
theorem cmp_trans {a b c : S24} (h1 : cmpOf a b ≤ 0) (h2 : cmpOf b c ≤ 0) : cmpOf a c ≤ 0 := by
  unfold cmpOf at *
  have t := cb_trans a.f0.data.toList b.f0.data.toList c.f0.data.toList
  have z1 := cb_zero a.f0.data.toList b.f0.data.toList
  have z2 := cb_zero b.f0.data.toList c.f0.data.toList
  have z3 := cb_zero a.f0.data.toList c.f0.data.toList
  have s3 := cb_trans c.f0.data.toList a.f0.data.toList b.f0.data.toList
  have s4 := cb_trans b.f0.data.toList c.f0.data.toList a.f0.data.toList
  have w1 := cb_swap a.f0.data.toList c.f0.data.toList
  have w2 := cb_swap a.f0.data.toList b.f0.data.toList
  have w3 := cb_swap b.f0.data.toList c.f0.data.toList
  by_cases e1 : a.f0.data.toList = b.f0.data.toList
  · rw [e1] at h1 ⊢
    have e0 := (cb_zero b.f0.data.toList b.f0.data.toList).2 rfl
    by_cases e2 : b.f0.data.toList = c.f0.data.toList
    · rw [e2] at h1 h2 ⊢
      have e0' := (cb_zero c.f0.data.toList c.f0.data.toList).2 rfl
      rw [if_neg (by simp [e0'])] at h1 h2 ⊢
      split at h1 <;> split at h2 <;> (try split at h1) <;> (try split at h2) <;> (repeat' split) <;> omega
    · have n2 : Lib.compareBytes b.f0.data.toList c.f0.data.toList ≠ 0 := fun h => e2 (z2.1 h)
      rw [if_pos n2] at h2 ⊢
      exact h2
  · have n1 : Lib.compareBytes a.f0.data.toList b.f0.data.toList ≠ 0 := fun h => e1 (z1.1 h)
    rw [if_pos n1] at h1
    by_cases e2 : b.f0.data.toList = c.f0.data.toList
    · rw [e2] at h1 n1
      rw [if_pos n1]
      exact h1
    · have n2 : Lib.compareBytes b.f0.data.toList c.f0.data.toList ≠ 0 := fun h => e2 (z2.1 h)
      rw [if_pos n2] at h2
      have t1 := t h1 h2
      by_cases e3 : a.f0.data.toList = c.f0.data.toList
      · rw [e3] at w2 h1
        omega
      · have n3 : Lib.compareBytes a.f0.data.toList c.f0.data.toList ≠ 0 := fun h => e3 (z3.1 h)
        rw [if_pos n3]
        exact t1
/-! ### heads -/
theorem lessH_iff (a b : Hd) : lessH a b = true ↔ cmpOf (rd_T24 a.l 0) (rd_T24 b.l 0) < 0 ∨ (cmpOf (rd_T24 a.l 0) (rd_T24 b.l 0) = 0 ∧ a.k < b.k) := by
  unfold lessH
  simp
theorem lessH_false (a b : Hd) : lessH a b = false ↔ 0 < cmpOf (rd_T24 a.l 0) (rd_T24 b.l 0) ∨ (cmpOf (rd_T24 a.l 0) (rd_T24 b.l 0) = 0 ∧ b.k ≤ a.k) := by
  rw [← Bool.not_eq_true, lessH_iff]
  omega
theorem lessH_irrefl (a : Hd) : lessH a a = false := by rw [lessH_false, cmp_self]; omega
theorem lessH_asymm {a b : Hd} (h : lessH a b = true) : lessH b a = false := by
  rw [lessH_iff] at h
  rw [lessH_false, cmp_swap (rd_T24 a.l 0)]
  omega
theorem lessH_ntrans {a b c : Hd} (h1 : lessH a b = false) (h2 : lessH b c = false) : lessH a c = false := by
  rw [lessH_false] at *
  generalize hx : rd_T24 a.l 0 = x at *
  generalize hy : rd_T24 b.l 0 = y at *
  generalize hz : rd_T24 c.l 0 = z at *
  have s1 := cmp_swap x y
  have s2 := cmp_swap y z
  have s3 := cmp_swap x z
  have t1 : cmpOf z y ≤ 0 → cmpOf y x ≤ 0 → cmpOf z x ≤ 0 := cmp_trans
  have t2 : cmpOf y x ≤ 0 → cmpOf x z ≤ 0 → cmpOf y z ≤ 0 := cmp_trans
  have t3 : cmpOf x z ≤ 0 → cmpOf z y ≤ 0 → cmpOf x y ≤ 0 := cmp_trans
  omega
def MinRoot (hs : List Hd) : Prop := ∀ h ∈ hs, lessH h (hs.getD 0 zHd) = false
theorem fix_min (hs : List Hd) (h3 : hs.length ≤ 3) : ∃ r i, downL hs.length 3 hs 0 = some (r, i) ∧ r.Perm hs ∧ MinRoot r := by
  match hs, h3 with
  | [], _ => exact ⟨[], 0, rfl, List.Perm.refl _, by intro h hh; cases hh⟩
  | [a], _ => exact ⟨[a], 0, rfl, List.Perm.refl _, by intro h hh; obtain rfl := List.mem_singleton.1 hh; exact lessH_irrefl _⟩
  | [a, b], _ =>
    by_cases h1 : lessH b a = true
    · refine ⟨[b, a], 1, ?_, List.Perm.swap _ _ _, ?_⟩
      · simp [downL, stepTo, h1, swapH]
      · intro h hh
        simp at hh
        rcases hh with rfl | rfl
        · exact lessH_irrefl _
        · exact lessH_asymm h1
    · have h1' := Bool.eq_false_iff.mpr h1
      refine ⟨[a, b], 0, ?_, List.Perm.refl _, ?_⟩
      · simp [downL, stepTo, h1']
      · intro h hh
        simp at hh
        rcases hh with rfl | rfl
        · exact lessH_irrefl _
        · exact h1'
  | [a, b, c], _ =>
    by_cases h0 : lessH c b = true
    · by_cases h1 : lessH c a = true
      · refine ⟨[c, b, a], 2, ?_, ?_, ?_⟩
        · simp [downL, stepTo, h0, h1, swapH]
        · exact List.reverse_perm [a, b, c]
        · intro h hh
          simp at hh
          rcases hh with rfl | rfl | rfl
          · exact lessH_irrefl _
          · exact lessH_asymm h0
          · exact lessH_asymm h1
      · have h1' := Bool.eq_false_iff.mpr h1
        refine ⟨[a, b, c], 0, ?_, List.Perm.refl _, ?_⟩
        · simp [downL, stepTo, h0, h1']
        · intro h hh
          simp at hh
          rcases hh with rfl | rfl | rfl
          · exact lessH_irrefl _
          · exact lessH_ntrans (lessH_asymm h0) h1'
          · exact h1'
    · have h0' := Bool.eq_false_iff.mpr h0
      by_cases h1 : lessH b a = true
      · refine ⟨[b, a, c], 1, ?_, List.Perm.swap _ _ _, ?_⟩
        · simp [downL, stepTo, h0', h1, swapH]
        · intro h hh
          simp at hh
          rcases hh with rfl | rfl | rfl
          · exact lessH_irrefl _
          · exact lessH_asymm h1
          · exact h0'
      · have h1' := Bool.eq_false_iff.mpr h1
        refine ⟨[a, b, c], 0, ?_, List.Perm.refl _, ?_⟩
        · simp [downL, stepTo, h0', h1']
        · intro h hh
          simp at hh
          rcases hh with rfl | rfl | rfl
          · exact lessH_irrefl _
          · exact h1'
          · exact lessH_ntrans h0' h1'
  | _ :: _ :: _ :: _ :: _, h3 => simp at h3
theorem init_min (hs : List Hd) (h3 : hs.length ≤ 3) : ∃ r, initL 3 hs = some r ∧ r.Perm hs ∧ MinRoot r := by
  unfold initL
  split
  · obtain ⟨r, i, h1, h2, h4⟩ := fix_min hs h3
    exact ⟨r, by rw [h1]; rfl, h2, h4⟩
  · rename_i h2
    refine ⟨hs, rfl, List.Perm.refl _, ?_⟩
    match hs, h2 with
    | [], _ => intro h hh; cases hh
    | [a], _ => intro h hh; obtain rfl := List.mem_singleton.1 hh; exact lessH_irrefl _
    | _ :: _ :: _, h2 => simp at h2
theorem pop_min (h0 : Hd) (rest : List Hd) (h3 : rest.length ≤ 2) : ∃ ys i, downL rest.length 3 (swapH (h0 :: rest) 0 rest.length) 0 = some (ys ++ [h0], i) ∧ ys.Perm rest ∧ MinRoot ys := by
  match rest, h3 with
  | [], _ => exact ⟨[], 0, rfl, List.Perm.refl _, by intro h hh; cases hh⟩
  | [a], _ => exact ⟨[a], 0, rfl, List.Perm.refl _, by intro h hh; obtain rfl := List.mem_singleton.1 hh; exact lessH_irrefl _⟩
  | [a, b], _ =>
    by_cases h1 : lessH a b = true
    · refine ⟨[a, b], 1, ?_, List.Perm.refl _, ?_⟩
      · simp [downL, stepTo, h1, swapH]
      · intro h hh
        simp at hh
        rcases hh with rfl | rfl
        · exact lessH_irrefl _
        · exact lessH_asymm h1
    · have h1' := Bool.eq_false_iff.mpr h1
      refine ⟨[b, a], 0, ?_, List.Perm.swap _ _ _, ?_⟩
      · simp [downL, stepTo, h1', swapH]
      · intro h hh
        simp at hh
        rcases hh with rfl | rfl
        · exact lessH_irrefl _
        · exact h1'
  | _ :: _ :: _ :: _, h3 => simp at h3
end Go.Proofs.Ytdpnhnfhobmopaa.P
