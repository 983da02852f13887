/- filter.Ones by hand. -/
import Derived.Test.YtifoofgdfaaaoaaP0
import Derived.Test.YtifoofgdfaaaoaaPL0a
import Derived.IntWalk
namespace Go.Proofs.Ytifoofgdfaaaoaa.P
open Go.RowKit Go.Proofs.YtifoofgdfaaaoaaW.PrintWords Go.Proofs.YtifoofgdfaaaoaaW.PrintLast Go.Proofs.YtifoofgdfaaaoaaW.PrintMore
set_option linter.unusedVariables false
set_option linter.unusedSimpArgs false

/-- How many bits of a byte are 1. -/
def pop8 (c : Int) : Int := (bits_OnesCount8.f c).getD 0
def onesOf (l : List Int) : Int := (l.map pop8).sum
def isBytes (l : List Int) : Bool := l.all fun x => decide (0 ≤ x) && decide (x < 256)
theorem pop8_bd (c : Int) (h0 : 0 ≤ c) (h1 : c < 256) : bits_OnesCount8.f c = some (pop8 c) ∧ 0 ≤ pop8 c ∧ pop8 c ≤ 255 := by
  unfold pop8 bits_OnesCount8.f
  rw [if_pos h0, if_pos h1]
  have hb := bt_range (⟨#[0, 1, 1, 2, 1, 2, 2, 3, 1, 2, 2, 3, 2, 3, 3, 4, 1, 2, 2, 3, 2, 3, 3, 4, 2, 3, 3, 4, 3, 4, 4, 5, 1, 2, 2, 3, 2, 3, 3, 4, 2, 3, 3, 4, 3, 4, 4, 5, 2, 3, 3, 4, 3, 4, 4, 5, 3, 4, 4, 5, 4, 5, 5, 6, 1, 2, 2, 3, 2, 3, 3, 4, 2, 3, 3, 4, 3, 4, 4, 5, 2, 3, 3, 4, 3, 4, 4, 5, 3, 4, 4, 5, 4, 5, 5, 6, 2, 3, 3, 4, 3, 4, 4, 5, 3, 4, 4, 5, 4, 5, 5, 6, 3, 4, 4, 5, 4, 5, 5, 6, 4, 5, 5, 6, 5, 6, 6, 7, 1, 2, 2, 3, 2, 3, 3, 4, 2, 3, 3, 4, 3, 4, 4, 5, 2, 3, 3, 4, 3, 4, 4, 5, 3, 4, 4, 5, 4, 5, 5, 6, 2, 3, 3, 4, 3, 4, 4, 5, 3, 4, 4, 5, 4, 5, 5, 6, 3, 4, 4, 5, 4, 5, 5, 6, 4, 5, 5, 6, 5, 6, 6, 7, 2, 3, 3, 4, 3, 4, 4, 5, 3, 4, 4, 5, 4, 5, 5, 6, 3, 4, 4, 5, 4, 5, 5, 6, 4, 5, 5, 6, 5, 6, 6, 7, 3, 4, 4, 5, 4, 5, 5, 6, 4, 5, 5, 6, 5, 6, 6, 7, 4, 5, 5, 6, 5, 6, 6, 7, 5, 6, 6, 7, 6, 7, 7, 8]⟩ : ByteArray) c
  refine ⟨rfl, ?_, ?_⟩
  · rw [Option.getD_some]; unfold wrap64; omega
  · rw [Option.getD_some]; unfold wrap64; omega
theorem isBytes_at {l : List Int} (h : isBytes l = true) (k : Nat) (hk : k < l.length) : 0 ≤ l.getD k 0 ∧ l.getD k 0 < 256 := by
  have := List.all_eq_true.1 h (l.getD k 0) (by rw [List.getD_eq_getElem?_getD, List.getElem?_eq_getElem hk]; exact List.getElem_mem hk)
  simp only [Bool.and_eq_true, decide_eq_true_eq] at this
  exact this
theorem onesOf_snoc (l : List Int) (k : Nat) (hk : k < l.length) : onesOf (l.take (k + 1)) = onesOf (l.take k) + pop8 (l.getD k 0) := by
  unfold onesOf
  rw [List.take_succ_eq_append_getElem hk, List.map_append, List.sum_append]
  simp [List.getD_eq_getElem?_getD, List.getElem?_eq_getElem hk]
theorem onesOf_bd {l : List Int} (h : isBytes l = true) (k : Nat) (hk : k ≤ l.length) : 0 ≤ onesOf (l.take k) ∧ onesOf (l.take k) ≤ 255 * k := by
  induction k with
  | zero => simp [onesOf]
  | succ k ih =>
    have h1 := ih (by omega)
    have h2 := isBytes_at h k (by omega)
    have h3 := pop8_bd _ h2.1 h2.2
    rw [onesOf_snoc l k (by omega)]
    omega
def filter_Ones.f (l0 : List Int) : Option Int := if isBytes l0 = true ∧ l0.length < 140737488355328 then (if filter_Check.f l0 = some 0 then some (onesOf (l0.take (l0.length - 1))) else (filter_Check.f l0).map fun _ => 0) else none
set_option maxHeartbeats 4000000 in
set_option maxRecDepth 100000 in
theorem ones_core (A0 : Option Addr) (c0 : Nat) (l0 : List Int) (m : Nat) (hl : l0.length = m + 1) (hm : m < 140737488355328) (w : World) (hr0 : Kd.C (Kd.int .u8) w A0 (m + 1) l0) (hc0 : m + 1 ≤ c0) (hb : isBytes l0 = true) (hch : filter_Check.f l0 = some 0) :
    Calls Try.prog 13 #[.slice A0 (m + 1) c0] w fun e w' => e = .returned (.int .i64 (onesOf (l0.take m))) ∧ Drawn0 w w' := by
  have hchk : ∀ w, Kd.C (Kd.int .u8) w A0 (m + 1) l0 → Calls Try.prog 15 #[.slice A0 (m + 1) c0] w fun e w' => e = .returned (.int .i64 0) ∧ Drawn0 w w' := by
    intro w hr
    have := filter_Check.calls A0 c0 l0 0 w (by rw [hl]; exact hr) (by rw [hl]; exact hc0) hch
    rwa [hl] at this
  have HR0 := Aside0.mk hr0
  have HL := Aside0.mk hl
  have HBy := Aside0.mk hb
  have HCK := Aside0.mk hchk
  clear hr0 hch hb hl hchk
  obtain ⟨ad, e0, _⟩ := HR0.out.2.2 (by omega)
  subst e0
  go_enter Try.func13, Try.ntmps13
  go_wp2_with (go_at_call 15; refine (HCK.out _ HR0.out).mono ?_; rintro e w' ⟨rfl, ⟨nd, rfl⟩⟩)
  go_loopw [3, 5, 15] (fun n _ i wr => Drawn0 w wr ∧ ∃ k : Nat, k ≤ m ∧ i = .int .i64 k ∧ n = .int .i64 (onesOf (l0.take k))) (fun _ _ i _ => m - (intOf i).toNat)
  case atStart => exact ⟨by exact ⟨nd, rfl⟩, 0, by omega, rfl, rfl⟩
  case round =>
    obtain ⟨hD, k, hk, rfl, rfl⟩ := hrel
    obtain ⟨nd2, rfl⟩ := hD
    have hob := onesOf_bd HBy.out k (by have := HL.out; omega)
    obtain ⟨s, hs⟩ : ∃ s, onesOf (l0.take k) = s := ⟨_, rfl⟩
    have HS := Aside0.mk hs
    rw [hs] at hob ⊢
    clear hs
    by_cases hlt : k < m
    · have hat := isBytes_at HBy.out k (by have := HL.out; omega)
      have hsn := onesOf_snoc l0 k (by have := HL.out; omega)
      have hC := Kd.at_int HR0.out (k : Int) (by omega) (by omega)
      obtain ⟨ad', ea, hx⟩ := hC
      cases ea
      rw [Int.toNat_natCast] at hx
      change 0 ≤ rd l0 k ∧ rd l0 k < 256 at hat
      have hp := pop8_bd _ hat.1 hat.2
      change onesOf (l0.take (k + 1)) = _ + pop8 (rd l0 k) at hsn
      rw [HS.out] at hsn
      have hpc := Aside0.mk hp.1
      obtain ⟨b, hb⟩ : ∃ b, rd l0 (k : Int) = b := ⟨_, rfl⟩
      rw [hb] at hx hat hp hpc hsn
      obtain ⟨q, hq⟩ : ∃ q, pop8 b = q := ⟨_, rfl⟩
      rw [hq] at hp hpc hsn
      have HSN := Aside0.mk hsn
      have hp2 := hp.2
      clear hb hq hsn hp
      go_wp2_with (go_at_call 21; refine (bits_OnesCount8.calls _ _ _ hpc.out).mono ?_; rintro e w' ⟨rfl, ⟨nd3, rfl⟩⟩)
      go_roundw
      case rel => exact ⟨⟨nd2 + nd3, by simp [World.drewN_drewN]⟩, k + 1, by omega, by go_num, by rw [HSN.out]⟩
      case measure => simp [intOf]; omega
    · obtain rfl : k = m := by omega
      go_wp2
      go_ret
      exact ⟨by rw [HS.out]; rfl, ⟨nd2, rfl⟩⟩
theorem filter_Ones.calls (A0 : Option Addr) (c0 : Nat) (l0 : List Int) (r : Int) (w : World) (hr0 : Kd.C (Kd.int .u8) w A0 l0.length l0) (hc0 : l0.length ≤ c0) (h : filter_Ones.f l0 = some r) :
    Calls Try.prog 13 #[.slice A0 l0.length c0] w fun e w' => e = .returned (.int .i64 r) ∧ Drawn0 w w' := by
  unfold filter_Ones.f at h
  by_cases hb : isBytes l0 = true ∧ l0.length < 140737488355328
  rotate_left
  · rw [if_neg hb] at h; cases h
  rw [if_pos hb] at h
  obtain ⟨hb, hlm⟩ := hb
  by_cases hc : filter_Check.f l0 = some 0
  · rw [if_pos hc] at h
    obtain rfl := Option.some.inj h
    obtain ⟨m, hm⟩ : ∃ m, l0.length = m + 1 := by
      cases l0 with
      | nil => exact absurd hc (by decide)
      | cons x l => exact ⟨l.length, rfl⟩
    have := ones_core A0 c0 l0 m hm (by omega) w (by rw [← hm]; exact hr0) (by omega) hb hc
    rw [hm]
    simpa using this
  · rw [if_neg hc] at h
    obtain ⟨t, ht, rfl⟩ := Option.map_eq_some_iff.1 h
    have ht0 : t ≠ 0 := fun e => hc (by rw [ht, e])
    have HC := Aside0.mk (filter_Check.calls A0 c0 l0 t w hr0 hc0 ht)
    have h1 : (t == 0) = false := by simpa using ht0
    have h2 : (t != 0) = true := by simpa using ht0
    clear hr0 hc0 h hc ht0
    go_enter Try.func13, Try.ntmps13
    go_wp2_with (go_at_call 15; refine HC.out.mono ?_; rintro e w' ⟨rfl, ⟨nd, rfl⟩⟩)
    go_ret
    exact ⟨rfl, ⟨nd, rfl⟩⟩
end Go.Proofs.Ytifoofgdfaaaoaa.P
