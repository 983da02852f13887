/- What the printed functions of the pick seat answer, in plain words: span, Meet, sizes. -/
import Derived.Test.YtdibolblgchpdaaRH10
import Derived.Test.YtdibolblgchpdaaRPL0c
import Derived.Test.YtdibolblgchpdaaRP0
import Derived.Test.YtdibolblgchpdaaRPEq
import Derived.Test.YtdibolblgchpdaaRH15
import Derived.Lib.Strings
namespace Go.Proofs.Ytdibolblgchpdaa.P
open Go.RowKit Go.Proofs.YtdibolblgchpdaaW.PrintWords Go.Proofs.YtdibolblgchpdaaW.PrintLast Go.Proofs.YtdibolblgchpdaaW.PrintMore
set_option linter.unusedVariables false
set_option linter.unusedSimpArgs false
theorem cb_less : ∀ a b : List UInt8, Op.bytesLess a b = true ↔ Lib.compareBytes a b < 0
  | [], [] => by simp [Op.bytesLess, Lib.compareBytes]
  | [], _ :: _ => by simp [Op.bytesLess, Lib.compareBytes]
  | _ :: _, [] => by simp [Op.bytesLess, Lib.compareBytes]
  | a :: s1, b :: s2 => by
    have ih := cb_less s1 s2
    unfold Lib.compareBytes Op.bytesLess
    by_cases h1 : a < b
    · simp [h1]
    · by_cases h2 : b < a
      · have : ¬ a = b := fun e => by subst e; exact h1 h2
        simp [h1, h2, this]
      · have : a = b := by
          have h3 : a.toNat ≤ b.toNat := Nat.le_of_not_lt (fun h => h2 (UInt8.lt_iff_toNat_lt.2 h))
          have h4 : b.toNat ≤ a.toNat := Nat.le_of_not_lt (fun h => h1 (UInt8.lt_iff_toNat_lt.2 h))
          exact UInt8.toNat_inj.1 (by omega)
        subst this
        simpa [h1] using ih
theorem cb_swap : ∀ a b : List UInt8, 0 < Lib.compareBytes a b ↔ Lib.compareBytes b a < 0
  | [], [] => by simp [Lib.compareBytes]
  | [], _ :: _ => by simp [Lib.compareBytes]
  | _ :: _, [] => by simp [Lib.compareBytes]
  | a :: s1, b :: s2 => by
    have ih := cb_swap s1 s2
    unfold Lib.compareBytes
    by_cases h1 : a < b
    · have h2 : ¬ b < a := fun h => by rw [UInt8.lt_iff_toNat_lt] at h h1; omega
      simp [h1, h2]
    · by_cases h2 : b < a
      · simp [h1, h2]
      · simpa [h1, h2] using ih
theorem lt0_less (a b : ByteArray) : lt0 (Lib.compareBytes a.data.toList b.data.toList) = Op.bytesLess a.toList b.toList := by
  rw [Lib.toList_data, Lib.toList_data]
  unfold lt0
  by_cases h : Op.bytesLess a.data.toList b.data.toList = true
  · rw [h]; exact decide_eq_true ((cb_less _ _).1 h)
  · rw [Bool.eq_false_iff.mpr h]; exact decide_eq_false (fun h1 => h ((cb_less _ _).2 h1))
theorem gt0_less (a b : ByteArray) : gt0 (Lib.compareBytes a.data.toList b.data.toList) = Op.bytesLess b.toList a.toList := by
  rw [Lib.toList_data, Lib.toList_data]
  unfold gt0
  by_cases h : Op.bytesLess b.data.toList a.data.toList = true
  · rw [h]; exact decide_eq_true ((cb_swap _ _).2 ((cb_less _ _).1 h))
  · rw [Bool.eq_false_iff.mpr h]; exact decide_eq_false (fun h1 => h ((cb_less _ _).2 ((cb_swap _ _).1 h1)))
theorem minFst (l : List S44) (i : Nat) (hi : 0 < i) : (minN lt0 byFirst l (i + 1)).f3 = if Op.bytesLess (rd_T44 l (i : Int)).f3.toList (minN lt0 byFirst l i).f3.toList = true then (rd_T44 l (i : Int)).f3 else (minN lt0 byFirst l i).f3 := by
  conv => lhs; unfold minN
  rw [if_neg (by omega)]
  unfold byFirst
  rw [lt0_less]
  split <;> rfl
theorem maxLst (l : List S44) (i : Nat) (hi : 0 < i) : (minN gt0 byLast l (i + 1)).f4 = if Op.bytesLess (minN gt0 byLast l i).f4.toList (rd_T44 l (i : Int)).f4.toList = true then (rd_T44 l (i : Int)).f4 else (minN gt0 byLast l i).f4 := by
  conv => lhs; unfold minN
  rw [if_neg (by omega)]
  unfold byLast
  rw [gt0_less]
  split <;> rfl
theorem less_irr (a : List UInt8) : ¬ Op.bytesLess a a = true := by
  intro h
  have := (cb_swap a a).2 ((cb_less a a).1 h)
  have := (cb_less a a).1 h
  omega
end Go.Proofs.Ytdibolblgchpdaa.P
