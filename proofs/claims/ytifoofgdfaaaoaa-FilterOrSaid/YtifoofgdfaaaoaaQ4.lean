/- Plain mathematics: what a built filter answers, and the number of its ones. -/
import Derived.Test.YtifoofgdfaaaoaaQ3
namespace Go.Proofs.Ytifoofgdfaaaoaa.P
open Go.RowKit Go.Proofs.YtifoofgdfaaaoaaW.PrintWords Go.Proofs.YtifoofgdfaaaoaaW.PrintLast Go.Proofs.YtifoofgdfaaaoaaW.PrintMore
set_option linter.unusedVariables false
set_option linter.unusedSimpArgs false

theorem bitAt_eq (l : List Int) (p : Int) : bitAt l p = bit8 (rd l (p / 8)) (p % 8).toNat := rfl
theorem rd_byte {l : List Int} (h : isBytes l = true) (p : Int) : 0 ≤ rd l p ∧ rd l p < 256 := by
  rw [isBytes_iff] at h
  unfold rd
  by_cases hp : p.toNat < l.length
  · have := h _ (List.getElem_mem hp)
    rw [List.getD_eq_getElem?_getD, List.getElem?_eq_getElem hp]
    exact this
  · rw [List.getD_eq_getElem?_getD, List.getElem?_eq_none (by omega)]
    exact ⟨by decide, by decide⟩
theorem rd_setBit (l : List Int) (p q : Int) : rd (setBit l p) q = if (p / 8).toNat = q.toNat ∧ q.toNat < l.length then bits .or .u8 (rd l (p / 8)) (2 ^ (p % 8).toNat) else rd l q := by
  unfold setBit
  simp only [rd, List.getD_eq_getElem?_getD, List.getElem?_set]
  by_cases h : (p / 8).toNat = q.toNat
  · by_cases h2 : q.toNat < l.length
    · simp [h, h2]
    · simp [h, h2]
  · simp [h]
theorem setBit_sets {l : List Int} (hb : isBytes l = true) (p : Int) (h0 : 0 ≤ p) (h : (p / 8).toNat < l.length) : bitAt (setBit l p) p ≠ 0 := by
  rw [bitAt_eq, rd_setBit, if_pos ⟨rfl, h⟩]
  have hx := rd_byte hb (p / 8)
  have hj : (p % 8).toNat < 8 := by omega
  have hp := pow_bd _ hj
  have h1 := (or_bits hx.1 hx.2 hp.1 hp.2 (p % 8).toNat).2.1
  rw [bit8_pow _ hj, if_pos rfl] at h1
  generalize bit8 (bits .or .u8 (rd l (p / 8)) (2 ^ (p % 8).toNat)) (p % 8).toNat = z at *
  omega
theorem setBit_keeps {l : List Int} (hb : isBytes l = true) (p q : Int) (h : bitAt l q ≠ 0) : bitAt (setBit l p) q ≠ 0 := by
  rw [bitAt_eq] at h ⊢
  rw [rd_setBit]
  split
  · rename_i hc
    have e : rd l (p / 8) = rd l (q / 8) := by simp only [rd, hc.1]
    have hx := rd_byte hb (q / 8)
    have hp := pow_bd (p % 8).toNat (by omega)
    have h1 := (or_bits hx.1 hx.2 hp.1 hp.2 (q % 8).toNat).1
    have h2 := bit8_bd (rd l (q / 8)) (q % 8).toNat
    rw [e]
    generalize bit8 (bits .or .u8 (rd l (q / 8)) (2 ^ (p % 8).toNat)) (q % 8).toNat = z at *
    generalize bit8 (rd l (q / 8)) (q % 8).toNat = y at *
    omega
  · exact h
theorem keyBits_keeps {l : List Int} (hb : isBytes l = true) (h d m : Int) (k : Nat) (q : Int) (hq : bitAt l q ≠ 0) : bitAt (keyBits h d m k l) q ≠ 0 := by
  induction k with
  | zero => exact hq
  | succ k ih => exact setBit_keeps (isBytes_keyBits _ _ _ _ hb) _ _ ih
theorem keysBits_keeps (m : Int) (k : Nat) (q : Int) (keys : List ByteArray) : ∀ {l : List Int}, isBytes l = true → bitAt l q ≠ 0 → bitAt (keysBits m k keys l) q ≠ 0 := by
  induction keys with
  | nil => intro l hb h; exact h
  | cons s keys ih => intro l hb h; exact ih (isBytes_keyBits _ _ _ _ hb) (keyBits_keeps hb _ _ _ _ _ h)
theorem keyBits_sets {l : List Int} (hb : isBytes l = true) (h d : Int) (N : Nat) (hN : 0 < N) (hl : l.length = N + 1) (k i : Nat) (hi : i < k) :
    bitAt (keyBits h d ((N : Int) * 8) k l) (placeAt h d ((N : Int) * 8) i) ≠ 0 := by
  induction k with
  | zero => omega
  | succ k ih =>
    show bitAt (setBit (keyBits h d _ k l) _) _ ≠ 0
    by_cases h2 : i < k
    · exact setBit_keeps (isBytes_keyBits _ _ _ _ hb) _ _ (ih h2)
    · obtain rfl : i = k := by omega
      have hp := placeAt_bd h d ((N : Int) * 8) i (by omega)
      refine setBit_sets (isBytes_keyBits _ _ _ _ hb) _ hp.1 ?_
      rw [keyBits_length, hl]
      omega
theorem keysBits_sets (N : Nat) (hN : 0 < N) (k i : Nat) (hi : i < k) (s : ByteArray) (keys : List ByteArray) : ∀ {l : List Int}, isBytes l = true → l.length = N + 1 → s ∈ keys →
    bitAt (keysBits ((N : Int) * 8) k keys l) (placeAt (hOf s) (dOf s) ((N : Int) * 8) i) ≠ 0 := by
  induction keys with
  | nil => intro l hb hl hs; cases hs
  | cons t keys ih =>
    intro l hb hl hs
    show bitAt (keysBits _ k keys (keyBits (hOf t) (dOf t) _ k l)) _ ≠ 0
    rcases List.mem_cons.1 hs with rfl | hs
    · exact keysBits_keeps _ _ _ _ (isBytes_keyBits _ _ _ _ hb) (keyBits_sets hb _ _ N hN hl k i hi)
    · exact ih (isBytes_keyBits _ _ _ _ hb) (by rw [keyBits_length, hl]) hs
theorem mayOf_iff (l : List Int) (N k : Nat) (hl : l.length = N + 1) (hk : rd l (N : Int) = (k : Int)) (s : ByteArray) :
    mayOf l s = true ↔ ∀ i, i < k → bitAt l (placeAt (hOf s) (dOf s) ((N : Int) * 8) i) ≠ 0 := by
  unfold mayOf
  have e : (l.length : Int) - 1 = (N : Int) := by omega
  rw [e, hk, Int.toNat_natCast, List.all_eq_true, Int.mul_comm 8]
  constructor
  · intro h i hi
    have := h i (List.mem_range.2 hi)
    simpa using this
  · intro h i hi
    have := h i (List.mem_range.1 hi)
    simpa using this
theorem isBytes_zeros (N : Nat) (k : Nat) (hk : k ≤ 30) : isBytes (List.replicate N 0 ++ [(k : Int)]) = true := by
  rw [isBytes_iff]
  intro x hx
  rcases List.mem_append.1 hx with hx | hx
  · have := List.eq_of_mem_replicate hx; omega
  · simp at hx; omega
theorem may_build (keys : List ByteArray) (b : Int) (hn : keys.length ≤ 65536) (h1 : 1 ≤ b) (h32 : b ≤ 32) (s : ByteArray) (hs : s ∈ keys) : mayOf (buildBytes keys b) s = true := by
  have h := bytesFor_bd keys.length b hn h1 h32
  have hk := placesFor_bd b h1 h32
  rw [mayOf_iff _ (bytesFor keys.length b) (placesFor b) (build_length keys b) (build_last keys b (by omega))]
  intro i hi
  exact keysBits_sets _ (by omega) _ i hi s keys (isBytes_zeros _ _ hk.2) (by simp) hs
theorem orTo_keeps {a b : List Int} (ha : isBytes a = true) (hb : isBytes b = true) (n : Nat) (hn : n ≤ a.length) (q : Int) (h : bitAt a q ≠ 0 ∨ (bitAt b q ≠ 0 ∧ (q / 8).toNat < n)) : bitAt (orTo a b n) q ≠ 0 := by
  have e : ∀ l : List Int, rd l (q / 8) = rd l (((q / 8).toNat : Nat) : Int) := by intro l; simp only [rd, Int.toNat_natCast]
  rw [bitAt_eq, e, orTo_rd a b n hn, ← e, ← e]
  rw [bitAt_eq, bitAt_eq] at h
  have hx := rd_byte ha (q / 8)
  have hy := rd_byte hb (q / 8)
  have h1 := or_bits hx.1 hx.2 hy.1 hy.2 (q % 8).toNat
  have b1 := bit8_bd (rd a (q / 8)) (q % 8).toNat
  have b2 := bit8_bd (rd b (q / 8)) (q % 8).toNat
  split
  · generalize bit8 (rd a (q / 8)) (q % 8).toNat = x at *
    generalize bit8 (rd b (q / 8)) (q % 8).toNat = y at *
    generalize bit8 (bits .or .u8 (rd a (q / 8)) (rd b (q / 8))) (q % 8).toNat = z at *
    omega
  · rename_i hc
    rcases h with h | h
    · exact h
    · exact absurd h.2 hc
/-! ### the ones, counted -/
theorem onesOf_nil : onesOf [] = 0 := rfl
theorem onesOf_cons (x : Int) (l : List Int) : onesOf (x :: l) = pop8 x + onesOf l := by unfold onesOf; simp
theorem onesOf_set_le (y c : Int) (hc : 0 ≤ c) : ∀ (l : List Int) (i : Nat), pop8 y ≤ pop8 (l.getD i 0) + c → onesOf (l.set i y) ≤ onesOf l + c := by
  intro l
  induction l with
  | nil => intro i h; simp; omega
  | cons x l ih =>
    intro i h
    cases i with
    | zero => simp only [List.set_cons_zero, onesOf_cons, List.getD_cons_zero] at h ⊢; omega
    | succ i => simp only [List.set_cons_succ, onesOf_cons, List.getD_cons_succ] at h ⊢; have := ih i h; omega
theorem ones_setBit {l : List Int} (hb : isBytes l = true) (N : Nat) (p : Int) (h0 : 0 ≤ p) (hp : p < (N : Int) * 8) : onesOf ((setBit l p).take N) ≤ onesOf (l.take N) + 1 := by
  unfold setBit
  rw [List.take_set]
  refine onesOf_set_le _ 1 (by omega) _ _ ?_
  have e : (l.take N).getD (p / 8).toNat 0 = rd l (p / 8) := by
    simp only [rd, List.getD_eq_getElem?_getD]
    rw [List.getElem?_take_of_lt (by omega)]
  rw [e]
  have hx := rd_byte hb (p / 8)
  have hj : (p % 8).toNat < 8 := by omega
  have hq := pow_bd _ hj
  have h1 := (pop8_or hx.1 hx.2 hq.1 hq.2).2
  rw [pop8_pow _ hj] at h1
  exact h1
theorem ones_keyBits {l : List Int} (hb : isBytes l = true) (h d : Int) (N : Nat) (hN : 0 < N) (k : Nat) : onesOf ((keyBits h d ((N : Int) * 8) k l).take N) ≤ onesOf (l.take N) + k := by
  induction k with
  | zero => simp [keyBits]
  | succ k ih =>
    have hp := placeAt_bd h d ((N : Int) * 8) k (by omega)
    have h1 := ones_setBit (isBytes_keyBits h d ((N : Int) * 8) k hb) N _ hp.1 hp.2
    show onesOf ((setBit (keyBits h d _ k l) _).take N) ≤ _
    omega
theorem ones_keysBits (N : Nat) (hN : 0 < N) (k : Nat) (keys : List ByteArray) : ∀ {l : List Int}, isBytes l = true → onesOf ((keysBits ((N : Int) * 8) k keys l).take N) ≤ onesOf (l.take N) + (keys.length : Int) * k := by
  induction keys with
  | nil => intro l hb; simp [keysBits]
  | cons s keys ih =>
    intro l hb
    have h1 := ones_keyBits hb (hOf s) (dOf s) N hN k
    have h2 := ih (isBytes_keyBits (hOf s) (dOf s) ((N : Int) * 8) k hb)
    show onesOf ((keysBits _ k keys (keyBits _ _ _ k l)).take N) ≤ _
    have e : (((s :: keys).length : Nat) : Int) * k = (keys.length : Int) * k + k := by
      rw [List.length_cons, Int.natCast_add, Int.add_mul]
      simp
    rw [e]
    omega
theorem pop8_zero : pop8 0 = 0 := by decide +kernel
theorem ones_zeros (N : Nat) : onesOf (List.replicate N 0) = 0 := by
  induction N with
  | zero => rfl
  | succ N ih => rw [List.replicate_succ, onesOf_cons, ih, pop8_zero]; rfl
theorem ones_build (keys : List ByteArray) (b : Int) (hn : keys.length ≤ 65536) (h1 : 1 ≤ b) (h32 : b ≤ 32) : onesOf ((buildBytes keys b).take (bytesFor keys.length b)) ≤ (keys.length : Int) * (placesFor b : Int) := by
  have h := bytesFor_bd keys.length b hn h1 h32
  have hk := placesFor_bd b h1 h32
  have h2 := ones_keysBits (bytesFor keys.length b) (by omega) (placesFor b) keys (isBytes_zeros (bytesFor keys.length b) (placesFor b) hk.2)
  have e : (List.replicate (bytesFor keys.length b) 0 ++ [(placesFor b : Int)]).take (bytesFor keys.length b) = List.replicate (bytesFor keys.length b) 0 := by
    rw [List.take_append_of_le_length (by simp)]
    simp
  rw [e, ones_zeros] at h2
  unfold buildBytes
  omega
theorem ones_nonneg (l : List Int) (hb : isBytes l = true) : 0 ≤ onesOf l ∧ onesOf l ≤ 255 * l.length := by
  rw [isBytes_iff] at hb
  induction l with
  | nil => simp [onesOf]
  | cons x l ih =>
    have h1 := pop8_bd x (hb x (by simp)).1 (hb x (by simp)).2
    have h2 := ih (fun y hy => hb y (by simp [hy]))
    rw [onesOf_cons, List.length_cons]
    omega
theorem isBytes_take {l : List Int} (h : isBytes l = true) (n : Nat) : isBytes (l.take n) = true := by
  rw [isBytes_iff] at h ⊢
  exact fun x hx => h x (List.mem_of_mem_take hx)
theorem ones_orTo {a b : List Int} (ha : isBytes a = true) (hb : isBytes b = true) (n : Nat) (hna : n ≤ a.length) (hnb : n ≤ b.length) :
    onesOf (a.take n) ≤ onesOf ((orTo a b n).take n) ∧ onesOf ((orTo a b n).take n) ≤ onesOf (a.take n) + onesOf (b.take n) := by
  have key : ∀ m, m ≤ n → onesOf (a.take m) ≤ onesOf ((orTo a b n).take m) ∧ onesOf ((orTo a b n).take m) ≤ onesOf (a.take m) + onesOf (b.take m) := by
    intro m
    induction m with
    | zero => intro _; simp [onesOf]
    | succ m ih =>
      intro hm
      have ih := ih (by omega)
      have hol := orTo_length a b n
      rw [onesOf_snoc a m (by omega), onesOf_snoc b m (by omega), onesOf_snoc (orTo a b n) m (by omega)]
      have er := orTo_rd a b n hna m
      rw [if_pos (by omega)] at er
      have hx := rd_byte ha (m : Int)
      have hy := rd_byte hb (m : Int)
      have h1 := pop8_or hx.1 hx.2 hy.1 hy.2
      have h2 := (pop8_bd _ hx.1 hx.2).2.1
      rw [← er] at h1
      simp only [rd, Int.toNat_natCast] at h1 h2
      omega
  exact key n (Nat.le_refl n)
theorem orTo_comm {a b : List Int} (m : Nat) (hl : a.length = m + 1) (hl2 : b.length = m + 1) (hk : rd a (m : Int) = rd b (m : Int)) : orTo a b m = orTo b a m := by
  apply rd_ext (by rw [orTo_length, orTo_length, hl, hl2])
  intro j hj
  rw [orTo_length] at hj
  rw [orTo_rd a b m (by omega), orTo_rd b a m (by omega), or_comm_u8]
  split
  · rfl
  · obtain rfl : j = m := by omega
    exact hk
theorem orTo_again {a b : List Int} (m : Nat) (hl : a.length = m + 1) : orTo (orTo a b m) a m = orTo a b m := by
  apply rd_ext (by rw [orTo_length])
  intro j hj
  rw [orTo_length, orTo_length] at hj
  rw [orTo_rd (orTo a b m) a m (by rw [orTo_length]; omega), orTo_rd a b m (by omega)]
  split
  · rw [or_again_u8]
  · rfl
end Go.Proofs.Ytifoofgdfaaaoaa.P
