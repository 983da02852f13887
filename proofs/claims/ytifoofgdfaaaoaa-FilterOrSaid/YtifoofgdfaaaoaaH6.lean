/- The document's May by hand. -/
import Derived.Test.YtifoofgdfaaaoaaH3
import Derived.Test.YtifoofgdfaaaoaaH5
namespace Go.Proofs.Ytifoofgdfaaaoaa.P
open Go.RowKit Go.Proofs.YtifoofgdfaaaoaaW.PrintWords Go.Proofs.YtifoofgdfaaaoaaW.PrintLast Go.Proofs.YtifoofgdfaaaoaaW.PrintMore
set_option linter.unusedVariables false
set_option linter.unusedSimpArgs false

set_option maxHeartbeats 4000000 in
set_option maxRecDepth 100000 in
theorem rmay_core (A0 : Option Addr) (c0 : Nat) (l0 : List Int) (m k : Nat) (hl : l0.length = m + 1) (hm8 : 8 ≤ m) (hm : m < 140737488355328) (key : ByteArray) (hkey : key.size ≤ 140737488351232) (hk : rd l0 (m : Int) = (k : Int)) (hk1 : 1 ≤ k) (hk30 : k ≤ 30)
    (w : World) (hr0 : Kd.C (Kd.int .u8) w A0 (m + 1) l0) (hc0 : m + 1 ≤ c0) (hch : atriumref07_Check.f l0 = some 0) :
    Calls Try.prog 12 #[.slice A0 (m + 1) c0, .string key] w fun e w' => e = .returned (.bool (mayOf l0 key)) ∧ Drawn0 w w' := by
  have hchk : ∀ w, Kd.C (Kd.int .u8) w A0 (m + 1) l0 → Calls Try.prog 16 #[.slice A0 (m + 1) c0] w fun e w' => e = .returned (.int .i64 0) ∧ Drawn0 w w' := by
    intro w hr
    have := atriumref07_Check.calls A0 c0 l0 0 w (by rw [hl]; exact hr) (by rw [hl]; exact hc0) hch
    rwa [hl] at this
  have hmay : mayOf l0 key = (List.range k).all fun i => bitAt l0 (placeAt (hOf key) (dOf key) (8 * (m : Int)) i) != 0 := by
    unfold mayOf
    rw [hl, show (((m + 1 : Nat) : Int) - 1) = (m : Int) by omega, hk, Int.toNat_natCast]
  obtain ⟨ad, ea, hx⟩ := Kd.at_int hr0 (m : Int) (by omega) (by omega)
  have HR0 := Aside0.mk hr0
  have HL := Aside0.mk hl
  have HCK := Aside0.mk hchk
  have HM := Aside0.mk hmay
  have HKEY := Aside0.mk hkey
  subst ea
  rw [Int.toNat_natCast, hk] at hx
  clear hr0 hch hl hchk hk hkey hmay
  go_enter Try.func12, Try.ntmps12
  go_wp2_with (go_at_call 16; refine (HCK.out _ HR0.out).mono ?_; rintro e w' ⟨rfl, ⟨nd, rfl⟩⟩)
  go_loopw [6] (fun v6 W => ∃ i : Nat, i ≤ k ∧ v6 = .int .i64 i ∧ Drawn0 w W ∧ Aside0 (∀ j, j < i → bitAt l0 (placeAt (hOf key) (dOf key) (8 * (m : Int)) j) ≠ 0)) (fun v6 _ => k - (intOf v6).toNat)
  case atStart => exact ⟨0, by omega, rfl, ⟨nd, rfl⟩, ⟨by intro j hj; omega⟩⟩
  case round =>
    obtain ⟨i, hi, rfl, ⟨nd2, rfl⟩, HALL⟩ := hrel
    by_cases hik : i < k
    · have hbd := placeAt_bd (hOf key) (dOf key) (8 * (m : Int)) i (by omega)
      have HPC := Aside0.mk (fun w => atriumref07_place.calls _ key (i : Int) (8 * (m : Int)) _ w (place_ref key HKEY.out i (by omega) _ (by omega) (by omega)))
      obtain ⟨p, hpq⟩ : ∃ p, placeAt (hOf key) (dOf key) (8 * (m : Int)) i = p := ⟨_, rfl⟩
      have HPQ := Aside0.mk hpq
      rw [hpq] at hbd HPC
      clear hpq
      obtain ⟨ad', ea, hxx⟩ := Kd.at_int HR0.out (p / 8) (by omega) (by omega)
      cases ea
      have hq1 : 0 ≤ p / 8 := by omega
      have hq2 : p / 8 < (m : Int) + 1 := by omega
      have HBI : bitAt l0 p = bits .and .u8 (rd l0 (p / 8) / 2 ^ (p % 8).toNat) 1 := rfl
      by_cases hb : bitAt l0 p = 0
      · have hb1 : (bits .and .u8 (rd l0 (p / 8) / 2 ^ (p % 8).toNat) 1 == 0) = true := by rw [← HBI, hb]; rfl
        have HBb := Aside0.mk hb
        clear hb HBI
        go_wp2_with (go_at_call 20; refine (HPC.out _).mono ?_; rintro e w' ⟨rfl, ⟨nd3, rfl⟩⟩)
        go_ret
        refine ⟨?_, ⟨nd2 + nd3, by simp [World.drewN_drewN]⟩⟩
        have : mayOf l0 key = false := by
          rw [HM.out, Bool.eq_false_iff]
          intro hall
          rw [List.all_eq_true] at hall
          have := hall i (by simpa using hik)
          rw [HPQ.out] at this
          simp [HBb.out] at this
        rw [this]
        rfl
      · have hb1 : (bits .and .u8 (rd l0 (p / 8) / 2 ^ (p % 8).toNat) 1 == 0) = false := by rw [← HBI]; simpa using hb
        have HBb := Aside0.mk hb
        clear hb HBI
        go_wp2_with (go_at_call 20; refine (HPC.out _).mono ?_; rintro e w' ⟨rfl, ⟨nd3, rfl⟩⟩)
        go_roundw
        case rel =>
          refine ⟨i + 1, by omega, by go_num, ⟨nd2 + nd3, by simp [World.drewN_drewN]⟩, ⟨fun j hj => ?_⟩⟩
          rcases Nat.lt_or_ge j i with h | h
          · exact HALL.out j h
          · obtain rfl : j = i := by omega
            rw [HPQ.out]
            exact HBb.out
        case measure => simp [intOf]; omega
    · obtain rfl : i = k := by omega
      go_wp2
      go_ret
      refine ⟨?_, ⟨nd2, rfl⟩⟩
      have : mayOf l0 key = true := by
        rw [HM.out, List.all_eq_true]
        intro j hj
        simpa using HALL.out j (by simpa using hj)
      rw [this]
      rfl
def atriumref07_May.f (l0 : List Int) (a1 : ByteArray) : Option Bool := filter_May.f l0 a1
set_option maxHeartbeats 4000000 in
set_option maxRecDepth 100000 in
theorem atriumref07_May.calls (A0 : Option Addr) (c0 : Nat) (l0 : List Int) (a1 : ByteArray) (r : Bool) (w : World) (hr0 : Kd.C (Kd.int .u8) w A0 l0.length l0) (hc0 : l0.length ≤ c0) (h : atriumref07_May.f l0 a1 = some r) :
    Calls Try.prog 12 #[.slice A0 l0.length c0, .string a1] w fun e w' => e = .returned (.bool r) ∧ Drawn0 w w' := by
  unfold atriumref07_May.f at h
  unfold filter_May.f at h
  by_cases hb : a1.size ≤ 140737488351232 ∧ l0.length < 140737488355328
  rotate_left
  · rw [if_neg hb] at h; cases h
  rw [if_pos hb] at h
  obtain ⟨hb, hlm⟩ := hb
  by_cases hc : filter_Check.f l0 = some 0
  · rw [if_pos hc] at h
    obtain rfl := Option.some.inj h
    obtain ⟨m, k, hm, hm8, hk, hk1, hk30⟩ := check_zero hc (by omega)
    have := rmay_core A0 c0 l0 m k hm hm8 (by omega) a1 hb hk hk1 hk30 w (by rw [← hm]; exact hr0) (by omega) hc
    rw [hm]
    exact this
  · rw [if_neg hc] at h
    obtain ⟨t, ht, rfl⟩ := Option.map_eq_some_iff.1 h
    have ht0 : t ≠ 0 := fun e => hc (by rw [ht, e])
    have HC := Aside0.mk (atriumref07_Check.calls A0 c0 l0 t w hr0 hc0 ht)
    have h1 : (t == 0) = false := by simpa using ht0
    have h2 : (t != 0) = true := by simpa using ht0
    clear hr0 hc0 h hc ht0
    go_enter Try.func12, Try.ntmps12
    go_wp2_with (go_at_call 16; refine HC.out.mono ?_; rintro e w' ⟨rfl, ⟨nd, rfl⟩⟩)
    go_ret
    exact ⟨rfl, ⟨nd, rfl⟩⟩
end Go.Proofs.Ytifoofgdfaaaoaa.P
