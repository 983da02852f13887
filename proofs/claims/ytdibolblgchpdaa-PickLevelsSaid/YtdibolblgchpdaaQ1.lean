/- What the printed functions of the pick seat answer, in plain words: span, Meet, sizes. -/
import Derived.Test.YtdibolblgchpdaaH10
import Derived.Test.YtdibolblgchpdaaPL0c
import Derived.Test.YtdibolblgchpdaaPL0f
import Derived.Test.YtdibolblgchpdaaH15
import Derived.Lib.Strings
namespace Go.Proofs.Ytdibolblgchpdaa.P
open Go.RowKit Go.Proofs.YtdibolblgchpdaaW.PrintWords Go.Proofs.YtdibolblgchpdaaW.PrintLast Go.Proofs.YtdibolblgchpdaaW.PrintMore
set_option linter.unusedVariables false
set_option linter.unusedSimpArgs false

theorem cb_less : ∀ a b : List UInt8, Op.bytesLess a b = true ↔ Lib.compareBytes a b < 0
  | [], [] => by simp [Op.bytesLess, Lib.compareBytes]
  | [], _ :: _ => by simp [Op.bytesLess, Lib.compareBytes]
  | _ :: _, [] => by simp [Op.bytesLess, Lib.compareBytes]
  | a :: s1, b :: s2 => by
    have ih := cb_less s1 s2
    unfold Lib.compareBytes Op.bytesLess
    by_cases h1 : a < b
    · simp [h1]
    · by_cases h2 : b < a
      · have : ¬ a = b := fun e => by subst e; exact h1 h2
        simp [h1, h2, this]
      · have : a = b := by
          have h3 : a.toNat ≤ b.toNat := Nat.le_of_not_lt (fun h => h2 (UInt8.lt_iff_toNat_lt.2 h))
          have h4 : b.toNat ≤ a.toNat := Nat.le_of_not_lt (fun h => h1 (UInt8.lt_iff_toNat_lt.2 h))
          exact UInt8.toNat_inj.1 (by omega)
        subst this
        simpa [h1] using ih
theorem cb_swap : ∀ a b : List UInt8, 0 < Lib.compareBytes a b ↔ Lib.compareBytes b a < 0
  | [], [] => by simp [Lib.compareBytes]
  | [], _ :: _ => by simp [Lib.compareBytes]
  | _ :: _, [] => by simp [Lib.compareBytes]
  | a :: s1, b :: s2 => by
    have ih := cb_swap s1 s2
    unfold Lib.compareBytes
    by_cases h1 : a < b
    · have h2 : ¬ b < a := fun h => by rw [UInt8.lt_iff_toNat_lt] at h h1; omega
      simp [h1, h2]
    · by_cases h2 : b < a
      · simp [h1, h2]
      · simpa [h1, h2] using ih
theorem lt0_less (a b : ByteArray) : lt0 (Lib.compareBytes a.data.toList b.data.toList) = Op.bytesLess a.toList b.toList := by
  rw [Lib.toList_data, Lib.toList_data]
  unfold lt0
  by_cases h : Op.bytesLess a.data.toList b.data.toList = true
  · rw [h]; exact decide_eq_true ((cb_less _ _).1 h)
  · rw [Bool.eq_false_iff.mpr h]; exact decide_eq_false (fun h1 => h ((cb_less _ _).2 h1))
theorem gt0_less (a b : ByteArray) : gt0 (Lib.compareBytes a.data.toList b.data.toList) = Op.bytesLess b.toList a.toList := by
  rw [Lib.toList_data, Lib.toList_data]
  unfold gt0
  by_cases h : Op.bytesLess b.data.toList a.data.toList = true
  · rw [h]; exact decide_eq_true ((cb_swap _ _).2 ((cb_less _ _).1 h))
  · rw [Bool.eq_false_iff.mpr h]; exact decide_eq_false (fun h1 => h ((cb_less _ _).2 ((cb_swap _ _).1 h1)))
theorem minFst (l : List S44) (i : Nat) (hi : 0 < i) : (minN lt0 byFirst l (i + 1)).f3 = if Op.bytesLess (rd_T44 l (i : Int)).f3.toList (minN lt0 byFirst l i).f3.toList = true then (rd_T44 l (i : Int)).f3 else (minN lt0 byFirst l i).f3 := by
  conv => lhs; unfold minN
  rw [if_neg (by omega)]
  unfold byFirst
  rw [lt0_less]
  split <;> rfl
theorem maxLst (l : List S44) (i : Nat) (hi : 0 < i) : (minN gt0 byLast l (i + 1)).f4 = if Op.bytesLess (minN gt0 byLast l i).f4.toList (rd_T44 l (i : Int)).f4.toList = true then (rd_T44 l (i : Int)).f4 else (minN gt0 byLast l i).f4 := by
  conv => lhs; unfold minN
  rw [if_neg (by omega)]
  unfold byLast
  rw [gt0_less]
  split <;> rfl
theorem span_l0 (l : List S44) (hl : l.length ≤ 4096) (d : Nat) : ∀ (i k : Nat), 0 < i → i + d = l.length → d < k →
    atriumref12_span.l0 k (minN lt0 byFirst l i).f3 (minN gt0 byLast l i).f4 l (l.length : Int) (i : Int) = some (spanA l, spanB l) := by
  induction d with
  | zero =>
    intro i k hi he hk
    obtain ⟨m, rfl⟩ : ∃ m, k = m + 1 := ⟨k - 1, by omega⟩
    simp only [atriumref12_span.l0]
    rw [if_neg (by omega)]
    obtain rfl : i = l.length := by omega
    rfl
  | succ d ih =>
    intro i k hi he hk
    obtain ⟨m, rfl⟩ : ∃ m, k = m + 1 := ⟨k - 1, by omega⟩
    have h := ih (i + 1) m (by omega) (by omega) (by omega)
    rw [minFst l i hi, maxLst l i hi] at h
    simp only [atriumref12_span.l0]
    rw [if_pos (by omega), if_pos (by omega), if_pos (by omega), wr1 i (by omega)]
    by_cases h1 : Op.bytesLess (rd_T44 l (i : Int)).f3.toList (minN lt0 byFirst l i).f3.toList = true
    · by_cases h2 : Op.bytesLess (minN gt0 byLast l i).f4.toList (rd_T44 l (i : Int)).f4.toList = true
      · rw [if_pos h1, if_pos h2]; rwa [if_pos h1, if_pos h2] at h
      · rw [if_pos h1, if_neg h2]; rwa [if_pos h1, if_neg h2] at h
    · by_cases h2 : Op.bytesLess (minN gt0 byLast l i).f4.toList (rd_T44 l (i : Int)).f4.toList = true
      · rw [if_neg h1, if_pos h2]; rwa [if_neg h1, if_pos h2] at h
      · rw [if_neg h1, if_neg h2]; rwa [if_neg h1, if_neg h2] at h
theorem less_irr (a : List UInt8) : ¬ Op.bytesLess a a = true := by
  intro h
  have := (cb_swap a a).2 ((cb_less a a).1 h)
  have := (cb_less a a).1 h
  omega
theorem span_at (k : Nat) (hk : 4100 ≤ k) (l : List S44) (hp : 0 < l.length) (hl : l.length ≤ 4096) : atriumref12_span.f k l = some (spanA l, spanB l) := by
  unfold atriumref12_span.f
  rw [if_pos (by omega)]
  obtain ⟨m, rfl⟩ : ∃ m, k = m + 1 := ⟨k - 1, by omega⟩
  simp only [atriumref12_span.l0]
  rw [if_pos (by omega), if_pos (by omega), if_pos (by omega), if_neg (less_irr _), if_neg (less_irr _)]
  rw [show wrap64 (0 + 1) = ((1 : Nat) : Int) from by unfold wrap64; omega]
  exact span_l0 l hl (l.length - 1) 1 m (by omega) (by omega) (by omega)
theorem rmeet_l0 (l : List S44) (a b : ByteArray) (hl : l.length ≤ 4096) (d : Nat) : ∀ (i k : Nat) (acc : List S44), acc.length ≤ i → i + d = l.length → d < k →
    atriumref12_Meet.l0 k a b acc l (l.length : Int) (i : Int) = some (acc ++ meetF (l.drop i) a b) := by
  induction d with
  | zero =>
    intro i k acc ha he hk
    obtain ⟨m, rfl⟩ : ∃ m, k = m + 1 := ⟨k - 1, by omega⟩
    simp only [atriumref12_Meet.l0]
    rw [if_neg (by omega), List.drop_eq_nil_of_le (by omega)]
    simp [meetF]
  | succ d ih =>
    intro i k acc ha he hk
    obtain ⟨m, rfl⟩ : ∃ m, k = m + 1 := ⟨k - 1, by omega⟩
    have hi : i < l.length := by omega
    simp only [atriumref12_Meet.l0]
    rw [if_pos (by omega), if_pos (by omega), if_pos (by omega), wr1 i (by omega), get44 l i hi, List.drop_eq_getElem_cons hi]
    have hf : ∀ t, meetF (l[i] :: t) a b = if keepB a b l[i] = true then l[i] :: meetF t a b else meetF t a b := fun t => by
      unfold meetF
      rw [List.filter_cons]
    rw [hf]
    by_cases h1 : Op.bytesLess b.toList l[i].f3.toList = true
    · rw [if_pos h1, if_neg (by unfold keepB outs; rw [h1]; simp)]
      exact ih (i + 1) m acc (by omega) (by omega) (by omega)
    · by_cases h2 : Op.bytesLess l[i].f4.toList a.toList = true
      · rw [if_neg h1, if_pos h2, if_neg (by unfold keepB outs; rw [h2]; simp)]
        exact ih (i + 1) m acc (by omega) (by omega) (by omega)
      · rw [if_neg h1, if_neg h2, if_pos (by omega), if_pos (by unfold keepB outs; rw [Bool.eq_false_iff.mpr h1, Bool.eq_false_iff.mpr h2]; rfl)]
        have h := ih (i + 1) m (acc ++ [l[i]]) (by rw [List.length_append]; simp; omega) (by omega) (by omega)
        rw [List.append_assoc] at h
        exact h
theorem rmeet_at (k : Nat) (hk : 4100 ≤ k) (l : List S44) (a b : ByteArray) (hl : l.length ≤ 4096) : atriumref12_Meet.f k l a b = some (meetF l a b) := by
  have h := rmeet_l0 l a b hl l.length 0 k [] (by simp) (by omega) (by omega)
  exact h
end Go.Proofs.Ytdibolblgchpdaa.P
