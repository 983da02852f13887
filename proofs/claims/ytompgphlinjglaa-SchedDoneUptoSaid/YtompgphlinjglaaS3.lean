/- Contracts: slices.IndexFunc, slices.ContainsFunc at a closure that captures nothing. -/
import Derived.Test.YtompgphlinjglaaS2
namespace Go.Proofs.Ytompgphlinjglaa.P
open Go.RowKit Go.Proofs.YtompgphlinjglaaW.PrintWords Go.Proofs.YtompgphlinjglaaW.PrintLast Go.Proofs.YtompgphlinjglaaW.PrintMore
attribute [local go_sem] Oper.semAt_some
set_option linter.unusedVariables false
set_option linter.unusedSimpArgs false

/-- The first place from i on at which p holds; -1: none. -/
def idxOf (p : Int → Bool) (l : List Int) : Int := if l.any p then (l.findIdx p : Int) else -1
theorem idxOf_at (p : Int → Bool) (l : List Int) (i : Nat) (hi : i < l.length) (h0 : (l.take i).any p = false) (h1 : p (rd l i) = true) : idxOf p l = i := by
  have e : rd l i = l[i] := by simp [rd, List.getD_eq_getElem?_getD, hi]
  rw [e] at h1
  unfold idxOf
  rw [if_pos (List.any_eq_true.2 ⟨l[i], List.getElem_mem hi, h1⟩)]
  congr 1
  rw [List.findIdx_eq hi]
  refine ⟨h1, fun j hj => ?_⟩
  have := List.any_eq_false.1 h0 l[j] (List.mem_take_iff_getElem.2 ⟨j, by omega, rfl⟩)
  simpa using this
theorem idxOf_none (p : Int → Bool) (l : List Int) (h0 : (l.take l.length).any p = false) : idxOf p l = -1 := by
  rw [List.take_length] at h0
  unfold idxOf
  rw [if_neg (by simp [h0])]
theorem any_snoc (p : Int → Bool) (l : List Int) (i : Nat) (hi : i < l.length) (h0 : (l.take i).any p = false) (h1 : p (rd l i) = false) : (l.take (i + 1)).any p = false := by
  have e : rd l i = l[i] := by simp [rd, List.getD_eq_getElem?_getD, hi]
  rw [e] at h1
  rw [List.take_succ_eq_append_getElem hi, List.any_append, h0]
  simp [h1]
theorem idxOf_ge (p : Int → Bool) (l : List Int) : decide (0 ≤ idxOf p l) = l.any p := by
  unfold idxOf
  cases h : l.any p with
  | true => simp
  | false => simp
def p38 : Int → Bool := (fun x : Int => x != -1)
theorem notEnded_p (x : Int) (w : World) : Calls Try.prog 38 #[.int .i64 x] w fun e w' => e = .returned (.bool (p38 x)) ∧ w' = w := notEnded_calls x w
set_option maxHeartbeats 4000000 in
set_option maxRecDepth 100000 in
theorem index_notEnded_calls (A : Option Addr) (c : Nat) (l : List Int) (w : World) (hC : Kd.C (Kd.int .i64) w A l.length l) :
    Calls Try.prog 49 #[.slice A l.length c, .func (.func 38) #[] #[]] w fun e w' => e = .returned (.int .i64 (idxOf p38 l)) ∧ Drawn0 w w' := by
  have HC := Aside0.mk hC
  have hm : l.length ≤ 9223372036854775807 := hC.2.1
  clear hC
  go_enter Try.func49, Try.ntmps49
  go_wp2
  go_loopg [5, 8] l.length (fun kq v5 v8 w' => ∃ i : Nat, v8 = .int .i64 i ∧ i ≤ l.length ∧ Aside0 (kq = l.length - i) ∧ Aside0 ((l.take i).any p38 = false) ∧ Drawn0 w w')
  case atStart => exact ⟨0, rfl, Nat.zero_le _, ⟨rfl⟩, ⟨by simp⟩, Drawn0.refl _⟩
  case round =>
    obtain ⟨i, rfl, hi, HK, HA, ⟨m, rfl⟩⟩ := hrel
    by_cases hlt : i < l.length
    · obtain ⟨k1, rfl⟩ : ∃ k1, gk = k1 + 1 := ⟨gk - 1, by have := HK.out; omega⟩
      have HK1 := Aside0.mk (show k1 = l.length - (i + 1) by have := HK.out; omega)
      obtain ⟨ad, e, hx⟩ := Kd.at_int (Kd.C_drewN HC.out m) (i : Int) (Int.natCast_nonneg _) (by omega)
      rw [Int.toNat_natCast] at hx
      cases e
      obtain ⟨x, hxe⟩ : ∃ x, rd l (i : Int) = x := ⟨_, rfl⟩
      rw [hxe] at hx
      have HX := Aside0.mk hxe
      clear HK hxe
      cases hp : p38 x with
      | true =>
        have HP := Aside0.mk hp
        clear hp
        go_wp2_with (go_at_call 38; refine (notEnded_p _ _).mono ?_; rintro e w' ⟨rfl, rfl⟩; rw [HP.out])
        go_ret
        exact ⟨by rw [idxOf_at p38 l i hlt HA.out (by rw [HX.out]; exact HP.out)]; rfl, ⟨⟨_, rfl⟩⟩⟩
      | false =>
        have HP := Aside0.mk hp
        clear hp
        go_wp2_with (go_at_call 38; refine (notEnded_p _ _).mono ?_; rintro e w' ⟨rfl, rfl⟩; rw [HP.out])
        go_roundg k1
        case measure => omega
        case rel => exact ⟨i + 1, by first | rfl | (congr 1; omega) | (simp; done), hlt, HK1, ⟨any_snoc p38 l i hlt HA.out (by rw [HX.out]; exact HP.out)⟩, ⟨⟨_, rfl⟩⟩⟩
    · obtain rfl : i = l.length := by omega
      go_wp2
      go_ret
      exact ⟨by rw [idxOf_none p38 l HA.out]; rfl, ⟨⟨_, rfl⟩⟩⟩
set_option maxHeartbeats 1000000 in
theorem contains_notEnded_calls (A : Option Addr) (c : Nat) (l : List Int) (w : World) (hC : Kd.C (Kd.int .i64) w A l.length l) :
    Calls Try.prog 37 #[.slice A l.length c, .func (.func 38) #[] #[]] w fun e w' => e = .returned (.bool (l.any p38)) ∧ Drawn0 w w' := by
  have HI := Aside0.mk (idxOf_ge p38 l)
  have HC := Aside0.mk hC
  clear hC
  go_enter Try.func37, Try.ntmps37
  go_wp2_with (go_at_call 49; refine (index_notEnded_calls _ _ _ _ HC.out).mono ?_; rintro e w' ⟨rfl, hd⟩; have HD := Aside0.mk hd; clear hd)
  go_ret
  exact ⟨by rw [← HI.out]; rfl, HD.out⟩
def p47 : Int → Bool := (fun x : Int => decide (x < 0))
theorem below0_p (x : Int) (w : World) : Calls Try.prog 47 #[.int .i64 x] w fun e w' => e = .returned (.bool (p47 x)) ∧ w' = w := below0_calls x w
set_option maxHeartbeats 4000000 in
set_option maxRecDepth 100000 in
theorem index_below0_calls (A : Option Addr) (c : Nat) (l : List Int) (w : World) (hC : Kd.C (Kd.int .i64) w A l.length l) :
    Calls Try.prog 49 #[.slice A l.length c, .func (.func 47) #[] #[]] w fun e w' => e = .returned (.int .i64 (idxOf p47 l)) ∧ Drawn0 w w' := by
  have HC := Aside0.mk hC
  have hm : l.length ≤ 9223372036854775807 := hC.2.1
  clear hC
  go_enter Try.func49, Try.ntmps49
  go_wp2
  go_loopg [5, 8] l.length (fun kq v5 v8 w' => ∃ i : Nat, v8 = .int .i64 i ∧ i ≤ l.length ∧ Aside0 (kq = l.length - i) ∧ Aside0 ((l.take i).any p47 = false) ∧ Drawn0 w w')
  case atStart => exact ⟨0, rfl, Nat.zero_le _, ⟨rfl⟩, ⟨by simp⟩, Drawn0.refl _⟩
  case round =>
    obtain ⟨i, rfl, hi, HK, HA, ⟨m, rfl⟩⟩ := hrel
    by_cases hlt : i < l.length
    · obtain ⟨k1, rfl⟩ : ∃ k1, gk = k1 + 1 := ⟨gk - 1, by have := HK.out; omega⟩
      have HK1 := Aside0.mk (show k1 = l.length - (i + 1) by have := HK.out; omega)
      obtain ⟨ad, e, hx⟩ := Kd.at_int (Kd.C_drewN HC.out m) (i : Int) (Int.natCast_nonneg _) (by omega)
      rw [Int.toNat_natCast] at hx
      cases e
      obtain ⟨x, hxe⟩ : ∃ x, rd l (i : Int) = x := ⟨_, rfl⟩
      rw [hxe] at hx
      have HX := Aside0.mk hxe
      clear HK hxe
      cases hp : p47 x with
      | true =>
        have HP := Aside0.mk hp
        clear hp
        go_wp2_with (go_at_call 47; refine (below0_p _ _).mono ?_; rintro e w' ⟨rfl, rfl⟩; rw [HP.out])
        go_ret
        exact ⟨by rw [idxOf_at p47 l i hlt HA.out (by rw [HX.out]; exact HP.out)]; rfl, ⟨⟨_, rfl⟩⟩⟩
      | false =>
        have HP := Aside0.mk hp
        clear hp
        go_wp2_with (go_at_call 47; refine (below0_p _ _).mono ?_; rintro e w' ⟨rfl, rfl⟩; rw [HP.out])
        go_roundg k1
        case measure => omega
        case rel => exact ⟨i + 1, by first | rfl | (congr 1; omega) | (simp; done), hlt, HK1, ⟨any_snoc p47 l i hlt HA.out (by rw [HX.out]; exact HP.out)⟩, ⟨⟨_, rfl⟩⟩⟩
    · obtain rfl : i = l.length := by omega
      go_wp2
      go_ret
      exact ⟨by rw [idxOf_none p47 l HA.out]; rfl, ⟨⟨_, rfl⟩⟩⟩
set_option maxHeartbeats 1000000 in
theorem contains_below0_calls (A : Option Addr) (c : Nat) (l : List Int) (w : World) (hC : Kd.C (Kd.int .i64) w A l.length l) :
    Calls Try.prog 37 #[.slice A l.length c, .func (.func 47) #[] #[]] w fun e w' => e = .returned (.bool (l.any p47)) ∧ Drawn0 w w' := by
  have HI := Aside0.mk (idxOf_ge p47 l)
  have HC := Aside0.mk hC
  clear hC
  go_enter Try.func37, Try.ntmps37
  go_wp2_with (go_at_call 49; refine (index_below0_calls _ _ _ _ HC.out).mono ?_; rintro e w' ⟨rfl, hd⟩; have HD := Aside0.mk hd; clear hd)
  go_ret
  exact ⟨by rw [← HI.out]; rfl, HD.out⟩
def p48 : Int → Bool := (fun x : Int => decide (x < 0) || decide (2147483647 < x))
theorem noTick_p (x : Int) (w : World) : Calls Try.prog 48 #[.int .i64 x] w fun e w' => e = .returned (.bool (p48 x)) ∧ w' = w := noTick_calls x w
set_option maxHeartbeats 4000000 in
set_option maxRecDepth 100000 in
theorem index_noTick_calls (A : Option Addr) (c : Nat) (l : List Int) (w : World) (hC : Kd.C (Kd.int .i64) w A l.length l) :
    Calls Try.prog 49 #[.slice A l.length c, .func (.func 48) #[] #[]] w fun e w' => e = .returned (.int .i64 (idxOf p48 l)) ∧ Drawn0 w w' := by
  have HC := Aside0.mk hC
  have hm : l.length ≤ 9223372036854775807 := hC.2.1
  clear hC
  go_enter Try.func49, Try.ntmps49
  go_wp2
  go_loopg [5, 8] l.length (fun kq v5 v8 w' => ∃ i : Nat, v8 = .int .i64 i ∧ i ≤ l.length ∧ Aside0 (kq = l.length - i) ∧ Aside0 ((l.take i).any p48 = false) ∧ Drawn0 w w')
  case atStart => exact ⟨0, rfl, Nat.zero_le _, ⟨rfl⟩, ⟨by simp⟩, Drawn0.refl _⟩
  case round =>
    obtain ⟨i, rfl, hi, HK, HA, ⟨m, rfl⟩⟩ := hrel
    by_cases hlt : i < l.length
    · obtain ⟨k1, rfl⟩ : ∃ k1, gk = k1 + 1 := ⟨gk - 1, by have := HK.out; omega⟩
      have HK1 := Aside0.mk (show k1 = l.length - (i + 1) by have := HK.out; omega)
      obtain ⟨ad, e, hx⟩ := Kd.at_int (Kd.C_drewN HC.out m) (i : Int) (Int.natCast_nonneg _) (by omega)
      rw [Int.toNat_natCast] at hx
      cases e
      obtain ⟨x, hxe⟩ : ∃ x, rd l (i : Int) = x := ⟨_, rfl⟩
      rw [hxe] at hx
      have HX := Aside0.mk hxe
      clear HK hxe
      cases hp : p48 x with
      | true =>
        have HP := Aside0.mk hp
        clear hp
        go_wp2_with (go_at_call 48; refine (noTick_p _ _).mono ?_; rintro e w' ⟨rfl, rfl⟩; rw [HP.out])
        go_ret
        exact ⟨by rw [idxOf_at p48 l i hlt HA.out (by rw [HX.out]; exact HP.out)]; rfl, ⟨⟨_, rfl⟩⟩⟩
      | false =>
        have HP := Aside0.mk hp
        clear hp
        go_wp2_with (go_at_call 48; refine (noTick_p _ _).mono ?_; rintro e w' ⟨rfl, rfl⟩; rw [HP.out])
        go_roundg k1
        case measure => omega
        case rel => exact ⟨i + 1, by first | rfl | (congr 1; omega) | (simp; done), hlt, HK1, ⟨any_snoc p48 l i hlt HA.out (by rw [HX.out]; exact HP.out)⟩, ⟨⟨_, rfl⟩⟩⟩
    · obtain rfl : i = l.length := by omega
      go_wp2
      go_ret
      exact ⟨by rw [idxOf_none p48 l HA.out]; rfl, ⟨⟨_, rfl⟩⟩⟩
set_option maxHeartbeats 1000000 in
theorem contains_noTick_calls (A : Option Addr) (c : Nat) (l : List Int) (w : World) (hC : Kd.C (Kd.int .i64) w A l.length l) :
    Calls Try.prog 37 #[.slice A l.length c, .func (.func 48) #[] #[]] w fun e w' => e = .returned (.bool (l.any p48)) ∧ Drawn0 w w' := by
  have HI := Aside0.mk (idxOf_ge p48 l)
  have HC := Aside0.mk hC
  clear hC
  go_enter Try.func37, Try.ntmps37
  go_wp2_with (go_at_call 49; refine (index_noTick_calls _ _ _ _ HC.out).mono ?_; rintro e w' ⟨rfl, hd⟩; have HD := Aside0.mk hd; clear hd)
  go_ret
  exact ⟨by rw [← HI.out]; rfl, HD.out⟩
end Go.Proofs.Ytompgphlinjglaa.P
