/- Plain mathematics: bits of a built filter. -/
import Derived.Test.YtifoofgdfaaaoaaQ2
namespace Go.Proofs.Ytifoofgdfaaaoaa.P
open Go.RowKit Go.Proofs.YtifoofgdfaaaoaaW.PrintWords Go.Proofs.YtifoofgdfaaaoaaW.PrintLast Go.Proofs.YtifoofgdfaaaoaaW.PrintMore
set_option linter.unusedVariables false
set_option linter.unusedSimpArgs false

theorem or_u8 (x y : Int) : bits .or .u8 x y = (((BitVec.ofInt 8 x) ||| (BitVec.ofInt 8 y)).toNat : Int) ∧ BitVec.ofInt 8 (bits .or .u8 x y) = (BitVec.ofInt 8 x) ||| (BitVec.ofInt 8 y) := by
  have h : ∀ v : BitVec 8, IntKind.u8.wrap (v.toNat : Int) = (v.toNat : Int) := by
    intro v
    rw [IntKind.wrap_u8]
    have := v.isLt
    omega
  have h2 : ∀ v : BitVec 8, BitVec.ofInt 8 (v.toNat : Int) = v := by
    intro v
    apply BitVec.eq_of_toNat_eq
    rw [BitVec.toNat_ofInt]
    have := v.isLt
    omega
  have e : bits .or .u8 x y = (((BitVec.ofInt 8 x) ||| (BitVec.ofInt 8 y)).toNat : Int) := h _
  exact ⟨e, by rw [e]; exact h2 _⟩
theorem or_comm_u8 (x y : Int) : bits .or .u8 x y = bits .or .u8 y x := by rw [(or_u8 x y).1, (or_u8 y x).1, BitVec.or_comm]
theorem or_right_comm_u8 (x a b : Int) : bits .or .u8 (bits .or .u8 x a) b = bits .or .u8 (bits .or .u8 x b) a := by
  rw [(or_u8 _ b).1, (or_u8 x a).2, (or_u8 _ a).1, (or_u8 x b).2, BitVec.or_assoc, BitVec.or_assoc, BitVec.or_comm (BitVec.ofInt 8 a)]
theorem or_again_u8 (x y : Int) : bits .or .u8 (bits .or .u8 x y) x = bits .or .u8 x y := by
  rw [(or_u8 _ x).1, (or_u8 x y).2, (or_u8 x y).1, BitVec.or_assoc, BitVec.or_comm (BitVec.ofInt 8 y), ← BitVec.or_assoc, BitVec.or_self]
theorem set_rd_comm (l : List Int) (i j : Nat) (x y : Int) (h : i ≠ j) : (l.set i x).set j y = (l.set j y).set i x := List.set_comm _ _ h
theorem setBit_comm (l : List Int) (p q : Int) : setBit (setBit l p) q = setBit (setBit l q) p := by
  unfold setBit
  by_cases h : (p / 8).toNat = (q / 8).toNat
  · have e : ∀ l : List Int, rd l (p / 8) = rd l (q / 8) := by intro l; simp only [rd, h]
    by_cases hl : (q / 8).toNat < l.length
    · have r : ∀ x, rd (l.set (q / 8).toNat x) (q / 8) = x := by
        intro x
        simp [rd, List.getD_eq_getElem?_getD, List.getElem?_set, hl]
      rw [e, e, h, r, r, List.set_set, List.set_set, or_right_comm_u8]
    · have sl : ∀ (l : List Int) (x : Int), l.length ≤ (q / 8).toNat → l.set (q / 8).toNat x = l := fun l x h => List.set_eq_of_length_le h
      rw [h, sl l _ (by omega), sl l _ (by omega), sl l _ (by omega)]
  · have r1 : ∀ x, rd (l.set (p / 8).toNat x) (q / 8) = rd l (q / 8) := by
      intro x
      simp only [rd, List.getD_eq_getElem?_getD, List.getElem?_set, if_neg h]
    have r2 : ∀ x, rd (l.set (q / 8).toNat x) (p / 8) = rd l (p / 8) := by
      intro x
      simp only [rd, List.getD_eq_getElem?_getD, List.getElem?_set, if_neg (fun e => h (Eq.symm e))]
    rw [r1, r2, List.set_comm _ _ h]
theorem keyBits_setBit (h d m : Int) (k : Nat) (l : List Int) (p : Int) : keyBits h d m k (setBit l p) = setBit (keyBits h d m k l) p := by
  induction k with
  | zero => rfl
  | succ k ih =>
    show setBit (keyBits h d m k (setBit l p)) _ = setBit (setBit (keyBits h d m k l) _) p
    rw [ih, setBit_comm]
theorem keyBits_comm (h d h' d' m : Int) (k k' : Nat) (l : List Int) : keyBits h d m k (keyBits h' d' m k' l) = keyBits h' d' m k' (keyBits h d m k l) := by
  induction k with
  | zero => rfl
  | succ k ih =>
    show setBit (keyBits h d m k (keyBits h' d' m k' l)) _ = keyBits h' d' m k' (setBit (keyBits h d m k l) _)
    rw [ih, keyBits_setBit]
theorem keysBits_reverse (m : Int) (k : Nat) (keys : List ByteArray) (l : List Int) : keysBits m k keys.reverse l = keysBits m k keys l := by
  unfold keysBits
  exact List.Perm.foldl_eq' (List.reverse_perm keys) (fun x _ y _ z => keyBits_comm _ _ _ _ _ _ _ _) l
/-! ### the last byte, the check -/
theorem setBit_last (l : List Int) (N : Nat) (p : Int) (h0 : 0 ≤ p) (h1 : p < (N : Int) * 8) : rd (setBit l p) (N : Int) = rd l (N : Int) := by
  unfold setBit
  have h : (p / 8).toNat ≠ N := by omega
  simp only [rd, Int.toNat_natCast, List.getD_eq_getElem?_getD, List.getElem?_set, if_neg h]
theorem keyBits_last (h d : Int) (N : Nat) (hN : 0 < N) (k : Nat) (l : List Int) : rd (keyBits h d ((N : Int) * 8) k l) (N : Int) = rd l (N : Int) := by
  induction k with
  | zero => rfl
  | succ k ih =>
    have := placeAt_bd h d ((N : Int) * 8) k (by omega)
    show rd (setBit (keyBits h d _ k l) _) _ = _
    rw [setBit_last _ _ _ this.1 this.2, ih]
theorem keysBits_last (N : Nat) (hN : 0 < N) (k : Nat) (keys : List ByteArray) : ∀ l : List Int, rd (keysBits ((N : Int) * 8) k keys l) (N : Int) = rd l (N : Int) := by
  induction keys with
  | nil => intro l; rfl
  | cons s keys ih =>
    intro l
    show rd (keysBits _ k keys (keyBits _ _ _ k l)) _ = _
    rw [ih, keyBits_last _ _ _ hN]
theorem build_last (keys : List ByteArray) (b : Int) (hN : 0 < bytesFor keys.length b) : rd (buildBytes keys b) ((bytesFor keys.length b : Nat) : Int) = (placesFor b : Int) := by
  unfold buildBytes
  rw [keysBits_last _ hN]
  simp [rd]
theorem check_of (l : List Int) (N : Nat) (hl : l.length = N + 1) (h8 : 8 ≤ N) (hN : N ≤ 262144) (k : Nat) (hk : rd l (N : Int) = (k : Int)) (h1 : 1 ≤ k) (h30 : k ≤ 30) : filter_Check.f l = some 0 := by
  unfold filter_Check.f
  have e := rr_e1 l.length N hl (by omega)
  rw [e, hk, if_neg (by omega), if_pos (by omega), if_pos (by omega), if_neg (by omega), if_neg (by omega)]
theorem check_build (keys : List ByteArray) (b : Int) (hn : keys.length ≤ 65536) (h1 : 1 ≤ b) (h32 : b ≤ 32) : filter_Check.f (buildBytes keys b) = some 0 := by
  have h := bytesFor_bd keys.length b hn h1 h32
  have hk := placesFor_bd b h1 h32
  exact check_of _ _ (build_length keys b) h.1 h.2 _ (build_last keys b (by omega)) hk.1 hk.2
/-! ### bits, as tests -/
theorem bit8_test (x : Nat) (hx : x < 256) (j : Nat) : bit8 (x : Int) j = if x.testBit j then 1 else 0 := by
  unfold bit8
  have e : (x : Int) / 2 ^ j = ((x / 2 ^ j : Nat) : Int) := by simp
  have hlt : x / 2 ^ j < 256 := Nat.lt_of_le_of_lt (Nat.div_le_self _ _) hx
  rw [e]
  show bits .and .u8 ((x / 2 ^ j : Nat) : Int) ((1 : Nat) : Int) = _
  rw [u8_and_nat _ 1 hlt (by decide), Nat.and_one_is_mod]
  rw [Nat.testBit_eq_decide_div_mod_eq]
  rcases Nat.mod_two_eq_zero_or_one (x / 2 ^ j) with h | h <;> simp [h]
theorem nat_of_byte {x : Int} (h0 : 0 ≤ x) (h1 : x < 256) : ∃ n : Nat, n < 256 ∧ x = (n : Int) := ⟨x.toNat, by omega, by omega⟩
theorem or_bits {x y : Int} (hx0 : 0 ≤ x) (hx : x < 256) (hy0 : 0 ≤ y) (hy : y < 256) (j : Nat) :
    bit8 x j ≤ bit8 (bits .or .u8 x y) j ∧ bit8 y j ≤ bit8 (bits .or .u8 x y) j ∧ bit8 (bits .or .u8 x y) j ≤ bit8 x j + bit8 y j := by
  obtain ⟨a, ha, rfl⟩ := nat_of_byte hx0 hx
  obtain ⟨b, hb, rfl⟩ := nat_of_byte hy0 hy
  have hab : a ||| b < 256 := Nat.or_lt_two_pow (n := 8) ha hb
  rw [u8_or_nat a b ha hb, bit8_test a ha, bit8_test b hb, bit8_test _ hab, Nat.testBit_or]
  cases a.testBit j <;> cases b.testBit j <;> decide
theorem bit8_pow (j : Nat) (hj : j < 8) (i : Nat) : bit8 (2 ^ j) i = if i = j then 1 else 0 := by
  have e : ((2 : Int) ^ j) = ((2 ^ j : Nat) : Int) := by simp
  have hlt : 2 ^ j < 256 := Nat.lt_of_lt_of_le (Nat.pow_lt_pow_right (by decide) hj) (by decide)
  rw [e, bit8_test _ hlt, Nat.testBit_two_pow]
  by_cases h : i = j
  · subst h; simp
  · have h' : ¬ j = i := fun e => h e.symm
    simp [h, h']
theorem pow_bd (j : Nat) (hj : j < 8) : (0 : Int) ≤ 2 ^ j ∧ (2 : Int) ^ j < 256 := by
  have : j = 0 ∨ j = 1 ∨ j = 2 ∨ j = 3 ∨ j = 4 ∨ j = 5 ∨ j = 6 ∨ j = 7 := by omega
  rcases this with rfl | rfl | rfl | rfl | rfl | rfl | rfl | rfl <;> decide
theorem pop8_or {x y : Int} (hx0 : 0 ≤ x) (hx : x < 256) (hy0 : 0 ≤ y) (hy : y < 256) : pop8 x ≤ pop8 (bits .or .u8 x y) ∧ pop8 (bits .or .u8 x y) ≤ pop8 x + pop8 y := by
  have hz := bits_bd_u8 .or x y
  rw [pop8_bits x hx0 hx, pop8_bits y hy0 hy, pop8_bits _ hz.1 hz.2]
  have h0 := or_bits hx0 hx hy0 hy 0; have h1 := or_bits hx0 hx hy0 hy 1; have h2 := or_bits hx0 hx hy0 hy 2; have h3 := or_bits hx0 hx hy0 hy 3
  have h4 := or_bits hx0 hx hy0 hy 4; have h5 := or_bits hx0 hx hy0 hy 5; have h6 := or_bits hx0 hx hy0 hy 6; have h7 := or_bits hx0 hx hy0 hy 7
  generalize bits .or .u8 x y = z at *
  generalize bit8 x 0 = x0 at *; generalize bit8 x 1 = x1 at *; generalize bit8 x 2 = x2 at *; generalize bit8 x 3 = x3 at *; generalize bit8 x 4 = x4 at *; generalize bit8 x 5 = x5 at *; generalize bit8 x 6 = x6 at *; generalize bit8 x 7 = x7 at *
  generalize bit8 y 0 = y0 at *; generalize bit8 y 1 = y1 at *; generalize bit8 y 2 = y2 at *; generalize bit8 y 3 = y3 at *; generalize bit8 y 4 = y4 at *; generalize bit8 y 5 = y5 at *; generalize bit8 y 6 = y6 at *; generalize bit8 y 7 = y7 at *
  generalize bit8 z 0 = z0 at *; generalize bit8 z 1 = z1 at *; generalize bit8 z 2 = z2 at *; generalize bit8 z 3 = z3 at *; generalize bit8 z 4 = z4 at *; generalize bit8 z 5 = z5 at *; generalize bit8 z 6 = z6 at *; generalize bit8 z 7 = z7 at *
  omega
theorem pop8_pow (j : Nat) (hj : j < 8) : pop8 (2 ^ j) = 1 := by
  have : j = 0 ∨ j = 1 ∨ j = 2 ∨ j = 3 ∨ j = 4 ∨ j = 5 ∨ j = 6 ∨ j = 7 := by omega
  rcases this with rfl | rfl | rfl | rfl | rfl | rfl | rfl | rfl <;> decide +kernel
end Go.Proofs.Ytifoofgdfaaaoaa.P
