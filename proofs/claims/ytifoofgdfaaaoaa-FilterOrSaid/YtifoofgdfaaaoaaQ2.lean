/- Plain mathematics: merging. -/
import Derived.Test.YtifoofgdfaaaoaaQ
namespace Go.Proofs.Ytifoofgdfaaaoaa.P
open Go.RowKit Go.Proofs.YtifoofgdfaaaoaaW.PrintWords Go.Proofs.YtifoofgdfaaaoaaW.PrintLast Go.Proofs.YtifoofgdfaaaoaaW.PrintMore
set_option linter.unusedVariables false
set_option linter.unusedSimpArgs false

def orTo (a b : List Int) : Nat → List Int
  | 0 => a
  | i + 1 => (orTo a b i).set i (bits .or .u8 (rd (orTo a b i) (i : Int)) (rd b (i : Int)))
theorem orTo_length (a b : List Int) (n : Nat) : (orTo a b n).length = a.length := by
  induction n with
  | zero => rfl
  | succ n ih => show (List.set _ _ _).length = _; rw [List.length_set, ih]
theorem rd_set (l : List Int) (i j : Nat) (x : Int) (hi : i < l.length) : rd (l.set i x) (j : Int) = if i = j then x else rd l (j : Int) := by
  simp only [rd, Int.toNat_natCast, List.getD_eq_getElem?_getD, List.getElem?_set]
  by_cases h : i = j
  · subst h; simp [hi]
  · simp [h]
theorem orTo_rd (a b : List Int) (n : Nat) (hn : n ≤ a.length) (j : Nat) : rd (orTo a b n) (j : Int) = if j < n then bits .or .u8 (rd a (j : Int)) (rd b (j : Int)) else rd a (j : Int) := by
  induction n with
  | zero => simp [orTo]
  | succ n ih =>
    have ih := ih (by omega)
    show rd ((orTo a b n).set n _) (j : Int) = _
    rw [rd_set _ _ _ _ (by rw [orTo_length]; omega)]
    by_cases h : n = j
    · subst h
      rw [if_pos rfl, if_pos (by omega), ih, if_neg (by omega)]
    · rw [if_neg h, ih]
      by_cases h2 : j < n
      · rw [if_pos h2, if_pos (by omega)]
      · rw [if_neg h2, if_neg (by omega)]
theorem rd_ext {a b : List Int} (hl : a.length = b.length) (h : ∀ j : Nat, j < a.length → rd a (j : Int) = rd b (j : Int)) : a = b := by
  apply List.ext_getElem hl
  intro i h1 h2
  have := h i h1
  simpa [rd, List.getD_eq_getElem?_getD, List.getElem?_eq_getElem h1, List.getElem?_eq_getElem h2] using this
theorem isBytes_orTo {a : List Int} (ha : isBytes a = true) (b : List Int) (n : Nat) : isBytes (orTo a b n) = true := by
  induction n with
  | zero => exact ha
  | succ n ih =>
    rw [isBytes_iff] at ih ⊢
    intro x hx
    rcases List.mem_or_eq_of_mem_set hx with hx | rfl
    · exact ih x hx
    · exact bits_bd_u8 _ _ _
/-- May these two be merged? -/
def fits (a b : List Int) : Prop := filter_Check.f a = some 0 ∧ filter_Check.f b = some 0 ∧ a.length = b.length ∧ rd a ((a.length - 1 : Nat) : Int) = rd b ((b.length - 1 : Nat) : Int)
instance (a b : List Int) : Decidable (fits a b) := by unfold fits; infer_instance
def mergeOf (a b : List Int) : List Int × Int := if fits a b then (orTo a b (a.length - 1), 0) else ([], 70)
theorem rr_last (n m : Nat) (h : n = m + 1) (hm : m < 140737488355328) : wrap64 ((n : Int) - 1) = (m : Int) ∧ (0 : Int) ≤ (m : Int) ∧ (m : Int) < (n : Int) ∧ (m : Int) ≤ (n : Int) := ⟨rr_e1 n m h hm, by omega, by omega, by omega⟩
theorem merge_l0 (a b : List Int) (m : Nat) (ha : a.length = m + 1) (hb : b.length = m + 1) (hm : m < 140737488355328) (d : Nat) : ∀ i : Nat, i ≤ m → m - i = d →
    EvS (fun k => filter_Merge.l0 k (orTo a b i) (b.take m) ((b.take m).length : Int) (i : Int)) (orTo a b m, 0) := by
  have ht : (b.take m).length = m := by rw [List.length_take]; omega
  induction d with
  | zero =>
    intro i hi hd
    obtain rfl : i = m := by omega
    refine EvS.step (h := fun _ => some (orTo a b i, 0)) (fun k => ?_) (EvS.const rfl)
    simp only [filter_Merge.l0]
    rw [ht, if_neg (by omega)]
  | succ d ih =>
    intro i hi hd
    refine EvS.step (h := fun k => filter_Merge.l0 k (orTo a b (i + 1)) (b.take m) ((b.take m).length : Int) ((i + 1 : Nat) : Int)) (fun k => ?_) (ih (i + 1) (by omega) (by omega))
    have hr : rd (b.take m) (i : Int) = rd b (i : Int) := by
      simp only [rd, Int.toNat_natCast, List.getD_eq_getElem?_getD]
      rw [List.getElem?_take_of_lt (by omega)]
    have hw := rr_n i (by omega)
    have ho : (orTo a b i).length = m + 1 := by rw [orTo_length, ha]
    have c1 : (i : Int) < (m : Int) := by omega
    have c2 : (i : Int) < ((m + 1 : Nat) : Int) := by omega
    simp only [filter_Merge.l0]
    rw [ht, ho, if_pos c1, if_pos (by omega), if_pos c1, if_pos c2, hr, hw, Int.toNat_natCast]
    rfl
theorem rmerge_l0 (a b : List Int) (n : Nat) (ha : a.length = n) (hb : b.length = n) (hn : n ≤ 140737488355328) (d : Nat) : ∀ i : Nat, i ≤ n → n - i = d →
    EvS (fun k => atriumref07_Merge.l0 k b (orTo a b i) (i : Int)) (orTo a b n, 0) := by
  induction d with
  | zero =>
    intro i hi hd
    obtain rfl : i = n := by omega
    refine EvS.step (h := fun _ => some (orTo a b i, 0)) (fun k => ?_) (EvS.const rfl)
    simp only [atriumref07_Merge.l0]
    rw [hb, if_neg (by omega)]
  | succ d ih =>
    intro i hi hd
    refine EvS.step (h := fun k => atriumref07_Merge.l0 k b (orTo a b (i + 1)) ((i + 1 : Nat) : Int)) (fun k => ?_) (ih (i + 1) (by omega) (by omega))
    have hw := rr_n i (by omega)
    have ho : (orTo a b i).length = n := by rw [orTo_length, ha]
    have c1 : (i : Int) < (n : Int) := by omega
    simp only [atriumref07_Merge.l0]
    rw [ho, hb, if_pos c1, if_pos (by omega), if_pos c1, hw, Int.toNat_natCast]
    rfl
theorem or_self_u8 : ∀ k : Fin 31, bits .or .u8 (k.val : Int) (k.val : Int) = (k.val : Int) := by decide +kernel
theorem orTo_last (a b : List Int) (m k : Nat) (ha : a.length = m + 1) (hka : rd a (m : Int) = (k : Int)) (hkb : rd b (m : Int) = (k : Int)) (hk : k ≤ 30) : orTo a b (m + 1) = orTo a b m := by
  apply rd_ext (by rw [orTo_length, orTo_length])
  intro j hj
  rw [orTo_length] at hj
  rw [orTo_rd a b (m + 1) (by omega), orTo_rd a b m (by omega)]
  by_cases h : j < m
  · rw [if_pos (by omega), if_pos h]
  · obtain rfl : j = m := by omega
    rw [if_pos (by omega), if_neg h, hka, hkb]
    exact or_self_u8 ⟨k, by omega⟩
theorem merge_impl (a b : List Int) (ha : a.length < 140737488355328) (hb : b.length < 140737488355328) : EvS (fun k => filter_Merge.f k a b) (mergeOf a b) := by
  have no : ¬ fits a b → EvS (fun k => filter_Merge.j0 k a b true) (mergeOf a b) := by
    intro h
    refine EvS.step (h := fun _ => some ([], 70)) (fun k => ?_) (EvS.const (by unfold mergeOf; rw [if_neg h]))
    simp only [filter_Merge.j0]
    rfl
  obtain ⟨ta, hta, h1⟩ := check_some a (by omega)
  obtain ⟨tb, htb, h2⟩ := check_some b (by omega)
  rcases h1 with rfl | rfl
  · rcases h2 with rfl | rfl
    · obtain ⟨m, ka, hma, hm8, hka, hka1, hka30⟩ := check_zero hta (by omega)
      obtain ⟨mb, kb, hmb, _, hkb, hkb1, hkb30⟩ := check_zero htb (by omega)
      by_cases hl : a.length = b.length
      · obtain rfl : mb = m := by omega
        obtain ⟨e1, c1, c2, c3⟩ := rr_last a.length mb hma (by omega)
        obtain ⟨e2, _, d2, d3⟩ := rr_last b.length mb hmb (by omega)
        have hll : (a.length : Int) = (b.length : Int) := by omega
        refine EvS.congr (h := fun k => filter_Merge.j0 k a b (rd a (mb : Int) != rd b (mb : Int))) (fun k => ?_) ?_
        · unfold filter_Merge.f
          rw [hta, Option.bind_some, if_pos rfl, htb, Option.bind_some, if_pos rfl, if_pos hll, e1, if_pos c1, if_pos c2, e2, if_pos c1, if_pos d2]
        · by_cases hk : rd a (mb : Int) = rd b (mb : Int)
          · have hf : fits a b := ⟨hta, htb, hl, by rw [hma, hmb]; simpa using hk⟩
            have hm : mergeOf a b = (orTo a b mb, 0) := by unfold mergeOf; rw [if_pos hf, hma]; rfl
            rw [hm]
            refine EvS.step (h := fun k => filter_Merge.l0 k a (b.take mb) ((b.take mb).length : Int) 0) (fun k => ?_) (merge_l0 a b mb hma hmb (by omega) mb 0 (by omega) (by omega))
            have hcl : slices_Clone_byte_byte.f a = some a := by unfold slices_Clone_byte_byte.f; rw [if_pos (by omega)]
            simp only [filter_Merge.j0]
            rw [hk, if_neg (by simp), hcl, Option.bind_some, e2, if_pos c1, if_pos d3, Int.toNat_natCast]
          · have hb2 : (rd a (mb : Int) != rd b (mb : Int)) = true := by simpa using hk
            rw [hb2]
            exact no (fun h => hk (by have := h.2.2.2; rw [hma, hmb] at this; simpa using this))
      · refine EvS.congr (h := fun k => filter_Merge.j0 k a b true) (fun k => ?_) (no (fun h => hl h.2.2.1))
        unfold filter_Merge.f
        rw [hta, Option.bind_some, if_pos rfl, htb, Option.bind_some, if_pos rfl, if_neg (by omega)]
    · refine EvS.congr (h := fun k => filter_Merge.j0 k a b true) (fun k => ?_) (no (fun h => by have := h.2.1; rw [htb] at this; cases this))
      unfold filter_Merge.f
      rw [hta, Option.bind_some, if_pos rfl, htb, Option.bind_some, if_neg (by decide)]
  · refine EvS.congr (h := fun k => filter_Merge.j0 k a b true) (fun k => ?_) (no (fun h => by have := h.1; rw [hta] at this; cases this))
    unfold filter_Merge.f
    rw [hta, Option.bind_some, if_neg (by decide)]
theorem merge_ref (a b : List Int) (ha : a.length < 140737488355328) (hb : b.length < 140737488355328) : EvS (fun k => atriumref07_Merge.f k a b) (mergeOf a b) := by
  have no : ¬ fits a b → EvS (fun k => atriumref07_Merge.j0 k a b true) (mergeOf a b) := by
    intro h
    refine EvS.step (h := fun _ => some ([], 70)) (fun k => ?_) (EvS.const (by unfold mergeOf; rw [if_neg h]))
    simp only [atriumref07_Merge.j0]
    rfl
  obtain ⟨ta, hta', h1⟩ := check_some a (by omega)
  obtain ⟨tb, htb', h2⟩ := check_some b (by omega)
  have hta : atriumref07_Check.f a = some ta := hta'
  have htb : atriumref07_Check.f b = some tb := htb'
  rcases h1 with rfl | rfl
  · rcases h2 with rfl | rfl
    · obtain ⟨m, ka, hma, hm8, hka, hka1, hka30⟩ := check_zero hta' (by omega)
      obtain ⟨mb, kb, hmb, _, hkb, hkb1, hkb30⟩ := check_zero htb' (by omega)
      by_cases hl : a.length = b.length
      · obtain rfl : mb = m := by omega
        obtain ⟨e1, c1, c2, c3⟩ := rr_last a.length mb hma (by omega)
        obtain ⟨e2, _, d2, d3⟩ := rr_last b.length mb hmb (by omega)
        have hll : (a.length : Int) = (b.length : Int) := by omega
        refine EvS.congr (h := fun k => atriumref07_Merge.j0 k a b (rd a (mb : Int) != rd b (mb : Int))) (fun k => ?_) ?_
        · unfold atriumref07_Merge.f
          rw [hta, Option.bind_some, if_pos rfl, htb, Option.bind_some, if_pos rfl, if_pos hll, e1, if_pos c1, if_pos c2, e2, if_pos c1, if_pos d2]
        · by_cases hk : rd a (mb : Int) = rd b (mb : Int)
          · have hf : fits a b := ⟨hta', htb', hl, by rw [hma, hmb]; simpa using hk⟩
            have hm : mergeOf a b = (orTo a b (mb + 1), 0) := by
              unfold mergeOf
              rw [if_pos hf, hma, orTo_last a b mb ka hma hka (by rw [← hk, hka]) hka30]
              rfl
            rw [hm]
            refine EvS.step (h := fun k => atriumref07_Merge.l0 k b a 0) (fun k => ?_) (rmerge_l0 a b (mb + 1) hma hmb (by omega) (mb + 1) 0 (by omega) (by omega))
            have hlen : ([] : List Int).length + a.length < 140737488355328 := by simpa using ha
            simp only [atriumref07_Merge.j0]
            rw [hk, if_neg (by simp), Option.bind_some, if_pos hlen, List.nil_append]
          · have hb2 : (rd a (mb : Int) != rd b (mb : Int)) = true := by simpa using hk
            rw [hb2]
            exact no (fun h => hk (by have := h.2.2.2; rw [hma, hmb] at this; simpa using this))
      · refine EvS.congr (h := fun k => atriumref07_Merge.j0 k a b true) (fun k => ?_) (no (fun h => hl h.2.2.1))
        unfold atriumref07_Merge.f
        rw [hta, Option.bind_some, if_pos rfl, htb, Option.bind_some, if_pos rfl, if_neg (by omega)]
    · refine EvS.congr (h := fun k => atriumref07_Merge.j0 k a b true) (fun k => ?_) (no (fun h => by have := h.2.1; rw [htb'] at this; cases this))
      unfold atriumref07_Merge.f
      rw [hta, Option.bind_some, if_pos rfl, htb, Option.bind_some, if_neg (by decide)]
  · refine EvS.congr (h := fun k => atriumref07_Merge.j0 k a b true) (fun k => ?_) (no (fun h => by have := h.1; rw [hta'] at this; cases this))
    unfold atriumref07_Merge.f
    rw [hta, Option.bind_some, if_neg (by decide)]
theorem mergeOf_length (a b : List Int) : (mergeOf a b).1.length ≤ a.length := by
  unfold mergeOf
  split
  · rw [orTo_length]; exact Nat.le_refl _
  · simp
theorem isBytes_of {l : List Int} (h : ∀ x ∈ l, (Lit.int .u8 x).wf = true) : isBytes l = true := by
  rw [isBytes_iff]
  intro x hx
  have := h x hx
  simp [Lit.wf] at this
  have h0 : IntKind.u8.min = 0 := by decide
  have h1 : IntKind.u8.max = 255 := by decide
  omega
end Go.Proofs.Ytifoofgdfaaaoaa.P
