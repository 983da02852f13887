/- Plain mathematics: what the filter's functions answer, so that the laws follow. -/
import Derived.Test.YtifoofgdfaaaoaaQ0
import Derived.Test.YtifoofgdfaaaoaaPL1b
import Derived.Test.YtifoofgdfaaaoaaPL0b
namespace Go.Proofs.Ytifoofgdfaaaoaa.P
open Go.RowKit Go.Proofs.YtifoofgdfaaaoaaW.PrintWords Go.Proofs.YtifoofgdfaaaoaaW.PrintLast Go.Proofs.YtifoofgdfaaaoaaW.PrintMore
set_option linter.unusedVariables false
set_option linter.unusedSimpArgs false

/-- With rounds enough, it answers r. -/
def EvS {α : Type} (g : Nat → Option α) (r : α) : Prop := ∃ K, ∀ k, K ≤ k → g k = some r
theorem EvS.const {α : Type} {o : Option α} {r : α} (h : o = some r) : EvS (fun _ => o) r := ⟨0, fun _ _ => h⟩
theorem EvS.step {α : Type} {g h : Nat → Option α} {r : α} (e : ∀ k, g (k + 1) = h k) (hh : EvS h r) : EvS g r := by
  obtain ⟨K, hK⟩ := hh
  refine ⟨K + 1, fun k hk => ?_⟩
  obtain ⟨m, rfl⟩ : ∃ m, k = m + 1 := ⟨k - 1, by omega⟩
  rw [e]
  exact hK m (by omega)
theorem EvS.congr {α : Type} {g h : Nat → Option α} {r : α} (e : ∀ k, g k = h k) (hh : EvS h r) : EvS g r := by
  obtain ⟨K, hK⟩ := hh
  exact ⟨K, fun k hk => (e k).trans (hK k hk)⟩
theorem EvS.bind {α β : Type} {g : Nat → Option α} {f : Nat → α → Option β} {a : α} {r : β} (hg : EvS g a) (hf : EvS (fun k => f k a) r) : EvS (fun k => (g k).bind (f k)) r := by
  obtain ⟨K, hK⟩ := hg
  obtain ⟨K', hK'⟩ := hf
  refine ⟨max K K', fun k hk => ?_⟩
  show (g k).bind (f k) = some r
  rw [hK k (by omega), Option.bind_some]
  exact hK' k (by omega)
theorem EvS.ex {α : Type} {g : Nat → Option α} {r : α} (h : EvS g r) : ∃ k, g k = some r := by
  obtain ⟨K, hK⟩ := h
  exact ⟨K, hK K (Nat.le_refl _)⟩

theorem same_l0 (l : List Int) (hl : l.length ≤ 140737488355328) (d : Nat) : ∀ i : Nat, i ≤ l.length → l.length - i = d → EvS (fun k => atriumlaw07_sameBytes.l0 k l l (i : Int)) true := by
  induction d with
  | zero =>
    intro i hi hd
    refine EvS.step (h := fun _ => some true) (fun k => ?_) (EvS.const rfl)
    simp only [atriumlaw07_sameBytes.l0]
    rw [if_neg (by omega)]
  | succ d ih =>
    intro i hi hd
    refine EvS.step (h := fun k => atriumlaw07_sameBytes.l0 k l l ((i + 1 : Nat) : Int)) (fun k => ?_) (ih (i + 1) (by omega) (by omega))
    simp only [atriumlaw07_sameBytes.l0]
    rw [if_pos (by omega), if_pos (by omega), if_pos (by omega), if_pos trivial, wrap_small _ (by omega) (by omega)]
    rfl
theorem same_refl (l : List Int) (hl : l.length ≤ 140737488355328) : EvS (fun k => atriumlaw07_sameBytes.f k l l) true := by
  refine EvS.congr (h := fun k => atriumlaw07_sameBytes.l0 k l l 0) (fun k => ?_) (same_l0 l hl l.length 0 (by omega) (by omega))
  unfold atriumlaw07_sameBytes.f
  rw [if_pos rfl]
theorem check_some (l : List Int) (hl : l.length ≤ 140737488355328) : ∃ t, filter_Check.f l = some t ∧ (t = 0 ∨ t = 70) := by
  unfold filter_Check.f
  by_cases h9 : (l.length : Int) < 9
  · exact ⟨70, by rw [if_pos h9], .inr rfl⟩
  · have e : wrap64 ((l.length : Int) - 1) = (l.length : Int) - 1 := by unfold wrap64; omega
    rw [if_neg h9, e, if_pos (by omega), if_pos (by omega)]
    split
    · exact ⟨70, rfl, .inr rfl⟩
    · split
      · exact ⟨70, rfl, .inr rfl⟩
      · exact ⟨0, rfl, .inl rfl⟩
theorem check_ref (l : List Int) : atriumref07_Check.f l = filter_Check.f l := rfl
theorem check_mk (l : List Int) (k : Int) (h8 : 8 ≤ l.length) (hl : l.length ≤ 140737488355327) (h1 : 1 ≤ k) (h30 : k ≤ 30) : filter_Check.f (l ++ [k]) = some 0 := by
  unfold filter_Check.f
  have el : (((l ++ [k]).length : Nat) : Int) = (l.length : Int) + 1 := by simp
  have e : wrap64 ((l.length : Int) + 1 - 1) = (l.length : Int) := by unfold wrap64; omega
  have er : rd (l ++ [k]) (l.length : Int) = k := by simp [rd]
  rw [el, if_neg (by omega), e, if_pos (by omega), if_pos (by omega), er, if_neg (by omega), if_neg (by omega)]

/-! ### bits of a byte -/
theorem pop8_bits (c : Int) (h0 : 0 ≤ c) (h1 : c < 256) : pop8 c = bit8 c 0 + bit8 c 1 + bit8 c 2 + bit8 c 3 + bit8 c 4 + bit8 c 5 + bit8 c 6 + bit8 c 7 := by
  have h := pop8_all ⟨c.toNat, by omega⟩
  have e : ((c.toNat : Nat) : Int) = c := by omega
  simp only [e] at h
  exact h
theorem bits_bd_u8 (op : BinOp) (x y : Int) : 0 ≤ bits op .u8 x y ∧ bits op .u8 x y < 256 := by
  unfold bits
  rw [IntKind.wrap_u8]
  omega
/-- The bits of the first n places, counted. -/
def bitsTo (l : List Int) : Nat → Int
  | 0 => 0
  | n + 1 => bitsTo l n + bit8 (rd l ((n / 8 : Nat) : Int)) (n % 8)
theorem bitsTo_bd (l : List Int) (n : Nat) : 0 ≤ bitsTo l n ∧ bitsTo l n ≤ 255 * n := by
  induction n with
  | zero => simp [bitsTo]
  | succ n ih =>
    have := bits_bd_u8 .and (rd l ((n / 8 : Nat) : Int) / 2 ^ (n % 8)) 1
    unfold bitsTo bit8
    omega
theorem bitsTo_ones (l : List Int) (hb : isBytes l = true) (n : Nat) (hn : n ≤ l.length) : bitsTo l (8 * n) = onesOf (l.take n) := by
  induction n with
  | zero => simp [bitsTo, onesOf]
  | succ n ih =>
    have h := isBytes_at hb n (by omega)
    rw [onesOf_snoc l n (by omega), ← ih (by omega), pop8_bits _ h.1 h.2]
    have e : 8 * (n + 1) = 8 * n + 1 + 1 + 1 + 1 + 1 + 1 + 1 + 1 := by omega
    rw [e]
    simp only [bitsTo]
    have d : ∀ j, j < 8 → (8 * n + j) / 8 = n ∧ (8 * n + j) % 8 = j := by intro j hj; omega
    have d0 := d 0 (by omega); have d1 := d 1 (by omega); have d2 := d 2 (by omega); have d3 := d 3 (by omega); have d4 := d 4 (by omega); have d5 := d 5 (by omega); have d6 := d 6 (by omega); have d7 := d 7 (by omega)
    simp only [Nat.add_zero, Nat.add_assoc, Nat.reduceAdd] at d0 d1 d2 d3 d4 d5 d6 d7 ⊢
    rw [d0.1, d0.2, d1.1, d1.2, d2.1, d2.2, d3.1, d3.2, d4.1, d4.2, d5.1, d5.2, d6.1, d6.2, d7.1, d7.2]
    simp only [rd, Int.toNat_natCast]
    omega
theorem tdiv8 (i : Nat) : Int.tdiv (i : Int) 8 = ((i / 8 : Nat) : Int) := by rw [Int.tdiv_eq_ediv_of_nonneg (by omega)]; omega
theorem tmod8 (i : Nat) : Int.tmod (i : Int) 8 = ((i % 8 : Nat) : Int) := by rw [Int.tmod_eq_emod_of_nonneg (by omega)]; omega
theorem wrap_id (x : Int) (h0 : 0 ≤ x) (h1 : x ≤ 4611686018427387904) : wrap64 x = x := by unfold wrap64; omega
theorem shr8 (x : Int) (j : Nat) (h : j ≤ 8) : shr .u8 x (j : Int) = x / 2 ^ j := by
  unfold shr
  rw [Int.toNat_natCast, show min j IntKind.u8.bits = j from Nat.min_eq_left h]
theorem rr_e1 (n m : Nat) (hl : n = m + 1) (hm : m < 140737488355328) : wrap64 ((n : Int) - 1) = (m : Int) := by
  have e := wrap_id ((n : Int) - 1) (by omega) (by omega)
  rw [e]
  omega
theorem rr_e2 (m : Nat) (hm : m < 140737488355328) : wrap64 (8 * (m : Int)) = 8 * (m : Int) := wrap_id _ (by omega) (by omega)
theorem rr_w (i : Nat) (hi : i < 4611686018427387904) : wrap64 ((i : Nat) : Int) = ((i : Nat) : Int) := wrap_id _ (by omega) (by omega)
theorem rr_n (i : Nat) (hi : i < 4611686018427387903) : wrap64 ((i : Int) + 1) = ((i + 1 : Nat) : Int) := by
  have e := wrap_id ((i : Int) + 1) (by omega) (by omega)
  rw [e]
  omega
theorem rr_c (n m i : Nat) (hl : n = m + 1) (hi : i < 8 * m) : (i : Int) < 8 * (m : Int) ∧ (0 : Int) ≤ ((i / 8 : Nat) : Int) ∧ ((i / 8 : Nat) : Int) < (n : Int) ∧ (0 : Int) ≤ ((i % 8 : Nat) : Int) := by omega
theorem bit8_bd (c : Int) (j : Nat) : 0 ≤ bit8 c j ∧ bit8 c j < 256 := bits_bd_u8 _ _ _
theorem rr_v (c : Int) (j : Nat) : wrap64 (bits .and .u8 (c / 2 ^ j) 1) = bit8 c j := by
  have h := bit8_bd c j
  exact wrap_id (bit8 c j) h.1 (by omega)
theorem rr_s (l : List Int) (i : Nat) (hi : i < 1125899906842624) : wrap64 (bitsTo l i + bit8 (rd l ((i / 8 : Nat) : Int)) (i % 8)) = bitsTo l (i + 1) := by
  have h := bitsTo_bd l (i + 1)
  exact wrap_id (bitsTo l (i + 1)) h.1 (by omega)
theorem rones_round (l : List Int) (m : Nat) (hl : l.length = m + 1) (hm : m < 140737488355328) (i : Nat) (hi : i < 8 * m) (k : Nat) :
    atriumref07_Ones.l0 (k + 1) l (bitsTo l i) (i : Int) = atriumref07_Ones.l0 k l (bitsTo l (i + 1)) ((i + 1 : Nat) : Int) := by
  have hi2 : i < 1125899906842624 := by omega
  obtain ⟨c1, c2, c3, c4⟩ := rr_c l.length m i hl hi
  have hs := shr8 (rd l ((i / 8 : Nat) : Int)) (i % 8) (by omega)
  have hn := rr_n i (by omega)
  have hw := rr_w (i / 8) (by omega)
  simp only [atriumref07_Ones.l0]
  rw [rr_e1 _ m hl hm, rr_e2 m hm, if_pos c1, tdiv8, hw, if_pos c2, if_pos c3, tmod8, if_pos c4, hs, rr_v, rr_s l i hi2, hn]
theorem rones_l0 (l : List Int) (m : Nat) (hl : l.length = m + 1) (hm : m < 140737488355328) (d : Nat) : ∀ i : Nat, i ≤ 8 * m → 8 * m - i = d →
    EvS (fun k => atriumref07_Ones.l0 k l (bitsTo l i) (i : Int)) (bitsTo l (8 * m)) := by
  induction d with
  | zero =>
    intro i hi hd
    obtain rfl : i = 8 * m := by omega
    refine EvS.step (h := fun _ => some (bitsTo l (8 * m))) (fun k => ?_) (EvS.const rfl)
    simp only [atriumref07_Ones.l0]
    rw [rr_e1 _ m hl hm, rr_e2 m hm, if_neg (by omega)]
  | succ d ih =>
    intro i hi hd
    exact EvS.step (h := fun k => atriumref07_Ones.l0 k l (bitsTo l (i + 1)) ((i + 1 : Nat) : Int)) (fun k => rones_round l m hl hm i (by omega) k) (ih (i + 1) (by omega) (by omega))
theorem ones_eq (l : List Int) (hb : isBytes l = true) (hl : l.length < 140737488355328) : ∃ n, filter_Ones.f l = some n ∧ EvS (fun k => atriumref07_Ones.f k l) n := by
  obtain ⟨t, ht, h⟩ := check_some l (by omega)
  rcases h with rfl | rfl
  · obtain ⟨m, k, hm, _, _⟩ := check_zero ht (by omega)
    refine ⟨onesOf (l.take (l.length - 1)), ?_, ?_⟩
    · unfold filter_Ones.f
      rw [if_pos ⟨hb, hl⟩, if_pos ht]
    · have h2 := rones_l0 l m hm (by omega) (8 * m) 0 (by omega) (by omega)
      rw [bitsTo_ones l hb m (by omega)] at h2
      rw [hm, Nat.add_sub_cancel]
      refine EvS.congr (h := fun k => atriumref07_Ones.l0 k l 0 0) (fun k => ?_) h2
      unfold atriumref07_Ones.f
      rw [check_ref, ht, Option.bind_some, if_pos rfl]
  · refine ⟨0, ?_, ?_⟩
    · unfold filter_Ones.f
      rw [if_pos ⟨hb, hl⟩, if_neg (by rw [ht]; decide), ht]
      rfl
    · refine EvS.congr (h := fun _ => some 0) (fun k => ?_) (EvS.const rfl)
      unfold atriumref07_Ones.f
      rw [check_ref, ht, Option.bind_some, if_neg (by decide)]
theorem may_some (l : List Int) (key : ByteArray) (hl : l.length < 140737488355328) (hk : key.size ≤ 140737488351232) : ∃ b, filter_May.f l key = some b := by
  unfold filter_May.f
  rw [if_pos ⟨hk, hl⟩]
  obtain ⟨t, ht, h⟩ := check_some l (by omega)
  by_cases hc : filter_Check.f l = some 0
  · exact ⟨_, by rw [if_pos hc]⟩
  · exact ⟨true, by rw [if_neg hc, ht]; rfl⟩
/-! ### the bytes that are built -/
theorem isBytes_iff (l : List Int) : isBytes l = true ↔ ∀ x ∈ l, 0 ≤ x ∧ x < 256 := by
  unfold isBytes
  rw [List.all_eq_true]
  constructor
  · intro h x hx
    have := h x hx
    simpa using this
  · intro h x hx
    have := h x hx
    simp [this]
theorem isBytes_setBit {l : List Int} (h : isBytes l = true) (p : Int) : isBytes (setBit l p) = true := by
  rw [isBytes_iff] at h ⊢
  intro x hx
  unfold setBit at hx
  rcases List.mem_or_eq_of_mem_set hx with hx | rfl
  · exact h x hx
  · exact bits_bd_u8 _ _ _
theorem isBytes_keyBits (h d m : Int) (k : Nat) {l : List Int} (hl : isBytes l = true) : isBytes (keyBits h d m k l) = true := by
  induction k with
  | zero => exact hl
  | succ k ih => exact isBytes_setBit ih _
theorem isBytes_keysBits (m : Int) (k : Nat) (keys : List ByteArray) : ∀ {l : List Int}, isBytes l = true → isBytes (keysBits m k keys l) = true := by
  induction keys with
  | nil => intro l h; exact h
  | cons s keys ih => intro l h; exact ih (isBytes_keyBits _ _ _ _ h)
theorem placesFor_bd (b : Int) (h1 : 1 ≤ b) (h32 : b ≤ 32) : 1 ≤ placesFor b ∧ placesFor b ≤ 30 := by unfold placesFor; omega
theorem bytesFor_bd (n : Nat) (b : Int) (hn : n ≤ 65536) (h1 : 1 ≤ b) (h32 : b ≤ 32) : 8 ≤ bytesFor n b ∧ bytesFor n b ≤ 262144 := by
  unfold bytesFor
  have h2 : (n : Int) * b ≤ 65536 * 32 := Int.mul_le_mul (by omega) h32 (by omega) (by omega)
  omega
theorem isBytes_build (keys : List ByteArray) (b : Int) (h1 : 1 ≤ b) (h32 : b ≤ 32) : isBytes (buildBytes keys b) = true := by
  refine isBytes_keysBits _ _ _ ?_
  rw [isBytes_iff]
  intro x hx
  have := placesFor_bd b h1 h32
  rcases List.mem_append.1 hx with hx | hx
  · have := List.eq_of_mem_replicate hx; omega
  · simp at hx; omega
theorem build_length (keys : List ByteArray) (b : Int) : (buildBytes keys b).length = bytesFor keys.length b + 1 := by
  unfold buildBytes
  rw [keysBits_length]
  simp
end Go.Proofs.Ytifoofgdfaaaoaa.P
