/- Plain mathematics of the filter: check sums, mixed numbers, places, bits. -/
import Derived.Test.YtifoofgdfaaaoaaPL0a
import Derived.Laws.BitsAllLaws
namespace Go.Proofs.Ytifoofgdfaaaoaa.P
open Go.RowKit Go.Proofs.YtifoofgdfaaaoaaW.PrintWords Go.Proofs.YtifoofgdfaaaoaaW.PrintLast Go.Proofs.YtifoofgdfaaaoaaW.PrintMore
set_option linter.unusedVariables false
set_option linter.unusedSimpArgs false

theorem wrapI_u64 (n : Int) : IntKind.u64.wrap n = n % 18446744073709551616 := by simp [IntKind.wrap, IntKind.bits, IntKind.signed]

def crcBit (x : Int) : Int := if x % 2 = 1 then bits .xor .u32 (x / 2) 2197175160 else x / 2
def crcBits : Nat → Int → Int
  | 0, x => x
  | n + 1, x => crcBits n (crcBit x)
def crcTo (s : ByteArray) : Nat → Int
  | 0 => 4294967295
  | k + 1 => crcBits 8 (bits .xor .u32 (crcTo s k) (bt s k))
def crcOf (s : ByteArray) : Int := bits .xor .u32 (crcTo s s.size) 4294967295
def mixOf (a0 : Int) : Int := (Go.bits .xor .u64 (IntKind.u64.wrap ((Go.bits .xor .u64 (IntKind.u64.wrap ((Go.bits .xor .u64 a0 (a0 / 1073741824)) * 13787848793156543929)) ((IntKind.u64.wrap ((Go.bits .xor .u64 a0 (a0 / 1073741824)) * 13787848793156543929)) / 134217728)) * 10723151780598845931)) ((IntKind.u64.wrap ((Go.bits .xor .u64 (IntKind.u64.wrap ((Go.bits .xor .u64 a0 (a0 / 1073741824)) * 13787848793156543929)) ((IntKind.u64.wrap ((Go.bits .xor .u64 a0 (a0 / 1073741824)) * 13787848793156543929)) / 134217728)) * 10723151780598845931)) / 2147483648))
theorem mix_impl (a : Int) : sched_Mix.f a = some (mixOf a) := rfl
theorem mix_ref (a : Int) : atriumref03_Mix.f a = some (mixOf a) := rfl
theorem bits_bd_u64 (op : BinOp) (x y : Int) : 0 ≤ bits op .u64 x y ∧ bits op .u64 x y < 18446744073709551616 := by
  unfold bits
  rw [wrapI_u64]
  omega
theorem bits_bd_u32 (op : BinOp) (x y : Int) : 0 ≤ bits op .u32 x y ∧ bits op .u32 x y < 4294967296 := by
  unfold bits
  rw [IntKind.wrap_u32]
  omega
theorem mixOf_bd (a : Int) : 0 ≤ mixOf a ∧ mixOf a < 18446744073709551616 := bits_bd_u64 _ _ _
theorem crcBit_bd (x : Int) (h0 : 0 ≤ x) (h1 : x < 4294967296) : 0 ≤ crcBit x ∧ crcBit x < 4294967296 := by
  unfold crcBit
  split
  · exact bits_bd_u32 _ _ _
  · omega
theorem crcBits_bd (n : Nat) : ∀ x : Int, 0 ≤ x → x < 4294967296 → 0 ≤ crcBits n x ∧ crcBits n x < 4294967296 := by
  induction n with
  | zero => intro x h0 h1; exact ⟨h0, h1⟩
  | succ n ih => intro x h0 h1; have := crcBit_bd x h0 h1; exact ih _ this.1 this.2
theorem crcTo_bd (s : ByteArray) (k : Nat) : 0 ≤ crcTo s k ∧ crcTo s k < 4294967296 := by
  cases k with
  | zero => unfold crcTo; omega
  | succ k => have := bits_bd_u32 .xor (crcTo s k) (bt s k); exact crcBits_bd 8 _ this.1 this.2
theorem crcOf_bd (s : ByteArray) : 0 ≤ crcOf s ∧ crcOf s < 4294967296 := bits_bd_u32 _ _ _

theorem xor_comm_u32 (a b : Int) : bits .xor .u32 a b = bits .xor .u32 b a := by
  unfold bits
  simp only [BitVec.xor_comm]
/-- One bit of the program's own loop: the same as the document's. -/
theorem crcBit_impl (x : Int) (h0 : 0 ≤ x) (h1 : x < 4294967296) : Go.bits .xor .u32 (x / 2) (Go.bits .and .u32 2197175160 ((-(Go.bits .and .u32 x 1)) % 4294967296)) = crcBit x := by
  have ha : Go.bits .and .u32 x 1 = x % 2 := by
    rw [u32_and x 1 h0 h1 (by omega) (by omega)]
    rw [show (1 : Int).toNat = 1 from rfl, nat_mask1]
    omega
  rw [ha]
  unfold crcBit
  rcases (show x % 2 = 0 ∨ x % 2 = 1 by omega) with e | e
  · rw [e, if_neg (by decide)]
    have : Go.bits .and .u32 2197175160 (-0 % 4294967296) = 0 := by decide
    rw [this, u32_xor (x / 2) 0 (by omega) (by omega) (by omega) (by omega)]
    rw [show (0 : Int).toNat = 0 from rfl, Nat.xor_zero]
    omega
  · rw [e, if_pos rfl]
    have : Go.bits .and .u32 2197175160 (-1 % 4294967296) = 2197175160 := by decide
    rw [this]
theorem wrap_small (i : Int) (h0 : 0 ≤ i) (h : i ≤ 9223372036854775806) : wrap64 (i + 1) = i + 1 := by unfold wrap64; omega
theorem crc_l1 (s : ByteArray) (x6 x7 : Int) (k : Nat) (d : Nat) : ∀ (j : Int) (x : Int), 0 ≤ j → j ≤ 8 → (8 - j).toNat = d → 0 ≤ x → x < 4294967296 →
    codec_Crc.l1 (k + 1 + d) s x x6 x7 j = codec_Crc.l0 k s (crcBits d x) x6 (wrap64 (x7 + 1)) := by
  induction d with
  | zero =>
    intro j x h0 h8 hd hx0 hx1
    simp only [codec_Crc.l1, Nat.add_zero]
    rw [if_neg (by omega)]
    rfl
  | succ d ih =>
    intro j x h0 h8 hd hx0 hx1
    show codec_Crc.l1 ((k + 1 + d) + 1) s x x6 x7 j = _
    simp only [codec_Crc.l1]
    rw [if_pos (by omega), crcBit_impl x hx0 hx1, wrap_small j h0 (by omega)]
    have hb := crcBit_bd x hx0 hx1
    exact ih (j + 1) _ (by omega) (by omega) (by omega) hb.1 hb.2
theorem crc_l0 (s : ByteArray) (hs : s.size ≤ 9223372036854775806) (d : Nat) : ∀ (i : Nat), i ≤ s.size → s.size - i = d →
    codec_Crc.l0 (1 + 10 * d) s (crcTo s i) (s.size : Int) (i : Int) = some (crcOf s) := by
  induction d with
  | zero =>
    intro i hi hd
    obtain rfl : i = s.size := by omega
    show codec_Crc.l0 (0 + 1) s _ _ _ = _
    simp only [codec_Crc.l0]
    rw [if_neg (by omega), xor_comm_u32]
    rfl
  | succ d ih =>
    intro i hi hd
    have hlt : i < s.size := by omega
    have e : 1 + 10 * (d + 1) = ((1 + 10 * d) + 1 + 8) + 1 := by omega
    rw [e]
    simp only [codec_Crc.l0]
    have hb := bt_range s i
    have hx := bits_bd_u32 .xor (crcTo s i) (bt s i)
    rw [if_pos (by omega), if_pos (by omega), if_pos (by omega), Int.emod_eq_of_lt hb.1 (by omega), crc_l1 s _ _ (1 + 10 * d) 8 0 _ (by omega) (by omega) (by decide) hx.1 hx.2, wrap_small i (by omega) (by omega)]
    exact ih (i + 1) (by omega) (by omega)
theorem crc_impl (s : ByteArray) (hs : s.size ≤ 9223372036854775806) : codec_Crc.f (1 + 10 * s.size) s = some (crcOf s) := crc_l0 s hs s.size 0 (by omega) (by omega)
theorem rcrc_l1 (s : ByteArray) (x7 : Int) (k : Nat) (d : Nat) : ∀ (j : Int) (x : Int), 0 ≤ j → j ≤ 8 → (8 - j).toNat = d → 0 ≤ x → x < 4294967296 →
    atriumref02_Crc.l1 (k + 1 + d) s x x7 j = atriumref02_Crc.l0 k s (crcBits d x) (wrap64 (x7 + 1)) := by
  induction d with
  | zero =>
    intro j x h0 h8 hd hx0 hx1
    simp only [atriumref02_Crc.l1, Nat.add_zero]
    rw [if_neg (by omega)]
    rfl
  | succ d ih =>
    intro j x h0 h8 hd hx0 hx1
    show atriumref02_Crc.l1 ((k + 1 + d) + 1) s x x7 j = _
    simp only [atriumref02_Crc.l1]
    have hb := crcBit_bd x hx0 hx1
    have ht : Int.tmod x 2 = x % 2 := Int.tmod_eq_emod_of_nonneg hx0
    have hq : Int.tdiv x 2 % 4294967296 = x / 2 := by rw [Int.tdiv_eq_ediv_of_nonneg hx0]; omega
    rw [if_pos (by omega), ht, hq, wrap_small j h0 (by omega)]
    have hi := ih (j + 1) (crcBit x) (by omega) (by omega) (by omega) hb.1 hb.2
    unfold crcBit at hi
    unfold crcBits crcBit
    split <;> rename_i he <;> simp only [he, if_true, if_false] at hi ⊢ <;> exact hi
theorem rcrc_l0 (s : ByteArray) (hs : s.size ≤ 9223372036854775806) (d : Nat) : ∀ (i : Nat), i ≤ s.size → s.size - i = d →
    atriumref02_Crc.l0 (1 + 10 * d) s (crcTo s i) (i : Int) = some (crcOf s) := by
  induction d with
  | zero =>
    intro i hi hd
    obtain rfl : i = s.size := by omega
    show atriumref02_Crc.l0 (0 + 1) s _ _ = _
    simp only [atriumref02_Crc.l0]
    rw [if_neg (by omega)]
    rfl
  | succ d ih =>
    intro i hi hd
    have hlt : i < s.size := by omega
    have e : 1 + 10 * (d + 1) = ((1 + 10 * d) + 1 + 8) + 1 := by omega
    rw [e]
    simp only [atriumref02_Crc.l0]
    have hb := bt_range s i
    have hx := bits_bd_u32 .xor (crcTo s i) (bt s i)
    rw [if_pos (by omega), if_pos (by omega), Int.emod_eq_of_lt hb.1 (by omega), rcrc_l1 s _ (1 + 10 * d) 8 0 _ (by omega) (by omega) (by decide) hx.1 hx.2, wrap_small i (by omega) (by omega)]
    exact ih (i + 1) (by omega) (by omega)
theorem crc_ref (s : ByteArray) (hs : s.size ≤ 9223372036854775806) : atriumref02_Crc.f (1 + 10 * s.size) s = some (crcOf s) := rcrc_l0 s hs s.size 0 (by omega) (by omega)

/-! ### a key's numbers and places -/
def hOf (s : ByteArray) : Int := mixOf (IntKind.u64.wrap (crcOf s + IntKind.u64.wrap ((s.size : Int) * 4294967296)))
def dOf (s : ByteArray) : Int := bits .or .u64 (mixOf (hOf s)) 1
def placeAt (h d m : Int) (i : Nat) : Int := IntKind.u64.wrap (h + IntKind.u64.wrap ((i : Int) * d)) % m
theorem hOf_bd (s : ByteArray) : 0 ≤ hOf s ∧ hOf s < 18446744073709551616 := mixOf_bd _
theorem dOf_bd (s : ByteArray) : 0 ≤ dOf s ∧ dOf s < 18446744073709551616 := bits_bd_u64 _ _ _
theorem placeAt_bd (h d m : Int) (i : Nat) (hm : 0 < m) : 0 ≤ placeAt h d m i ∧ placeAt h d m i < m := ⟨Int.emod_nonneg _ (by omega), Int.emod_lt_of_pos _ hm⟩
def setBit (l : List Int) (p : Int) : List Int := l.set (p / 8).toNat (bits .or .u8 (rd l (p / 8)) (2 ^ (p % 8).toNat))
theorem setBit_length (l : List Int) (p : Int) : (setBit l p).length = l.length := by simp [setBit]
/-- The bits of one key's first places, set. -/
def keyBits (h d m : Int) : Nat → List Int → List Int
  | 0, l => l
  | i + 1, l => setBit (keyBits h d m i l) (placeAt h d m i)
theorem keyBits_length (h d m : Int) (k : Nat) (l : List Int) : (keyBits h d m k l).length = l.length := by
  induction k with
  | zero => rfl
  | succ k ih => unfold keyBits; rw [setBit_length, ih]
def keysBits (m : Int) (k : Nat) (keys : List ByteArray) (l : List Int) : List Int := keys.foldl (fun l s => keyBits (hOf s) (dOf s) m k l) l
theorem keysBits_length (m : Int) (k : Nat) (keys : List ByteArray) : ∀ l, (keysBits m k keys l).length = l.length := by
  induction keys with
  | nil => intro l; rfl
  | cons s keys ih => intro l; show (keysBits m k keys _).length = _; rw [ih, keyBits_length]
def bytesFor (n : Nat) (bits : Int) : Nat := (((max 64 ((n : Int) * bits) + 7) / 8).toNat)
def placesFor (bits : Int) : Nat := (min (max (bits * 69 / 100) 1) 30).toNat
def buildBytes (keys : List ByteArray) (bits : Int) : List Int :=
  keysBits ((bytesFor keys.length bits : Int) * 8) (placesFor bits) keys (List.replicate (bytesFor keys.length bits) 0 ++ [(placesFor bits : Int)])
def buildOf (keys : List ByteArray) (bits : Int) : List Int × Int :=
  if bits < 1 ∨ bits > 32 then ([], 1) else if keys.length > 65536 then ([], 3) else (buildBytes keys bits, 0)
/-- Is the bit at a place 1? -/
def bitAt (l : List Int) (p : Int) : Int := bits .and .u8 (rd l (p / 8) / 2 ^ (p % 8).toNat) 1
def mayOf (l : List Int) (key : ByteArray) : Bool :=
  (List.range (rd l ((l.length : Int) - 1)).toNat).all fun i => bitAt l (placeAt (hOf key) (dOf key) (8 * ((l.length : Int) - 1)) i) != 0
end Go.Proofs.Ytifoofgdfaaaoaa.P
