/- Contracts: Check of both. -/
import Derived.Test.YtompgphlinjglaaS3
namespace Go.Proofs.Ytompgphlinjglaa.P
open Go.RowKit Go.Proofs.YtompgphlinjglaaW.PrintWords Go.Proofs.YtompgphlinjglaaW.PrintLast Go.Proofs.YtompgphlinjglaaW.PrintMore
attribute [local go_sem] Oper.semAt_some
set_option linter.unusedVariables false
set_option linter.unusedSimpArgs false

theorem wr1 (i : Nat) (h : i < 4611686018427387904) : wrap64 ((i : Int) + 1) = ((i + 1 : Nat) : Int) := by unfold wrap64; omega
theorem rd_at (l : List Int) (i : Nat) (h : i < l.length) : rd l (i : Int) = l[i] := by simp [rd, h]
theorem rcheck_l1 (l0 l1 l2 : List Int) (hl : l1.length ≤ 65536) (d : Nat) : ∀ (i k : Nat), i + d = l1.length → d < k →
    PSchedPlays.atriumref03_Check.l1 k (i : Int) l0 l1 l2 = some (if (l1.drop i).any p48 = true then 1 else 0) := by
  induction d with
  | zero =>
    intro i k he hk
    obtain ⟨m, rfl⟩ : ∃ m, k = m + 1 := ⟨k - 1, by omega⟩
    simp only [PSchedPlays.atriumref03_Check.l1]
    rw [if_neg (by omega), List.drop_eq_nil_of_le (by omega)]
    simp
  | succ d ih =>
    intro i k he hk
    obtain ⟨m, rfl⟩ : ∃ m, k = m + 1 := ⟨k - 1, by omega⟩
    have hi : i < l1.length := by omega
    simp only [PSchedPlays.atriumref03_Check.l1]
    rw [if_pos (by omega), if_pos (by omega), wr1 i (by omega), rd_at l1 i hi, List.drop_eq_getElem_cons hi, List.any_cons]
    by_cases h1 : l1[i] < 0
    · rw [if_pos h1]; simp [p48, h1]
    · rw [if_neg h1]
      by_cases h2 : l1[i] > 2147483647
      · rw [if_pos h2]; simp [p48]; omega
      · rw [if_neg h2, ih (i + 1) m (by omega) (by omega)]
        have : p48 l1[i] = false := by simp [p48]; omega
        rw [this, Bool.false_or]
theorem rcheck_l0 (l0 l1 l2 : List Int) (hl0 : l0.length ≤ 65536) (hl : l1.length ≤ 65536) (d : Nat) : ∀ (i k : Nat), i + d = l0.length → d + l1.length + 1 < k →
    PSchedPlays.atriumref03_Check.l0 k (i : Int) l0 l1 l2 = some (if (l0.drop i).any p47 = true ∨ l1.any p48 = true then 1 else 0) := by
  induction d with
  | zero =>
    intro i k he hk
    obtain ⟨m, rfl⟩ : ∃ m, k = m + 1 := ⟨k - 1, by omega⟩
    simp only [PSchedPlays.atriumref03_Check.l0]
    rw [if_neg (by omega), List.drop_eq_nil_of_le (by omega)]
    have := rcheck_l1 l0 l1 l2 hl l1.length 0 m (by omega) (by omega)
    rw [show (0 : Int) = ((0 : Nat) : Int) from rfl] at this ⊢
    simp only [List.drop_zero] at this
    rw [this]
    simp
  | succ d ih =>
    intro i k he hk
    obtain ⟨m, rfl⟩ : ∃ m, k = m + 1 := ⟨k - 1, by omega⟩
    have hi : i < l0.length := by omega
    simp only [PSchedPlays.atriumref03_Check.l0]
    rw [if_pos (by omega), if_pos (by omega), wr1 i (by omega), rd_at l0 i hi, List.drop_eq_getElem_cons hi, List.any_cons]
    by_cases h1 : l0[i] < 0
    · rw [if_pos h1]; simp [p47, h1]
    · rw [if_neg h1, ih (i + 1) m (by omega) (by omega)]
      have : p47 l0[i] = false := by simp [p47]; omega
      rw [this, Bool.false_or]
theorem checkF_eq (l0 l1 l2 : List Int) : checkF l0 l1 l2 = if 65536 < l0.length ∨ 65536 < l1.length ∨ 65536 < l2.length then 3 else if l0.any p47 = true ∨ l1.any p48 = true then 1 else 0 := rfl
theorem rcheck (l0 l1 l2 : List Int) : ∃ k, PSchedPlays.atriumref03_Check.f k l0 l1 l2 = some (checkF l0 l1 l2) := by
  rw [checkF_eq]
  unfold PSchedPlays.atriumref03_Check.f
  refine ⟨(l0.length + l1.length + 2) + 1, ?_⟩
  by_cases h0 : 65536 < l0.length
  · rw [if_pos (by omega), if_pos (.inl h0)]; simp only [PSchedPlays.atriumref03_Check.j0]; rfl
  rw [if_neg (show ¬ (l0.length : Int) > 65536 by omega)]
  by_cases h1 : 65536 < l1.length
  · rw [if_pos (by omega), if_pos (.inr (.inl h1))]; simp only [PSchedPlays.atriumref03_Check.j0]; rfl
  rw [if_neg (show ¬ (l1.length : Int) > 65536 by omega)]
  by_cases h2 : 65536 < l2.length
  · rw [if_pos (.inr (.inr h2)), decide_eq_true (by omega)]; simp only [PSchedPlays.atriumref03_Check.j0]; rfl
  rw [decide_eq_false (by omega), if_neg (show ¬ (65536 < l0.length ∨ 65536 < l1.length ∨ 65536 < l2.length) by omega)]
  simp only [PSchedPlays.atriumref03_Check.j0]
  have := rcheck_l0 l0 l1 l2 (by omega) (by omega) l0.length 0 (l0.length + l1.length + 2) (by omega) (by omega)
  rw [List.drop_zero] at this
  rw [if_neg (by decide)]
  exact this
theorem rcheck_calls (A0 : Option Addr) (c0 : Nat) (l0 : List Int) (A1 : Option Addr) (c1 : Nat) (l1 : List Int) (A2 : Option Addr) (c2 : Nat) (l2 : List Int) (w : World) (h0 : Kd.C (Kd.int .i64) w A0 l0.length l0) (hc0 : l0.length ≤ c0) (h1 : Kd.C (Kd.int .i64) w A1 l1.length l1) (hc1 : l1.length ≤ c1) (h2 : Kd.C (Kd.int .u64) w A2 l2.length l2) (hc2 : l2.length ≤ c2) :
    Calls Try.prog 33 #[.agg #[.slice A0 l0.length c0, .slice A1 l1.length c1, .slice A2 l2.length c2]] w fun e w' => e = .returned (.int .i64 (checkF l0 l1 l2)) ∧ Below w.heap.size w w' := by
  obtain ⟨k, hk⟩ := rcheck l0 l1 l2
  exact PSchedPlays.atriumref03_Check.calls k A0 c0 l0 A1 c1 l1 A2 c2 l2 _ w h0 hc0 h1 hc1 h2 hc2 hk
set_option maxHeartbeats 4000000 in
set_option maxRecDepth 100000 in
theorem check_calls (A0 : Option Addr) (c0 : Nat) (l0 : List Int) (A1 : Option Addr) (c1 : Nat) (l1 : List Int) (A2 : Option Addr) (c2 : Nat) (l2 : List Int) (w : World) (h0 : Kd.C (Kd.int .i64) w A0 l0.length l0) (h1 : Kd.C (Kd.int .i64) w A1 l1.length l1) :
    Calls Try.prog 34 #[.agg #[.slice A0 l0.length c0, .slice A1 l1.length c1, .slice A2 l2.length c2]] w fun e w' => e = .returned (.int .i64 (checkF l0 l1 l2)) ∧ Below w.heap.size w w' := by
  have HF := Aside0.mk (checkF_eq l0 l1 l2)
  have H0 := Aside0.mk h0
  have H1 := Aside0.mk h1
  clear h0 h1
  have HB := Aside0.mk (below_alloc (Below.refl w.heap.size w) (.cells #[.slice A0 l0.length c0, .slice A1 l1.length c1, .slice A2 l2.length c2] 28))
  by_cases h0 : 65536 < l0.length
  · have d0 : decide (65536 < (l0.length : Int)) = true := decide_eq_true (by omega)
    have HV := Aside0.mk (show checkF l0 l1 l2 = 3 by rw [HF.out, if_pos (.inl h0)])
    clear h0
    go_enter Try.func34, Try.ntmps34
    go_wp2
    go_ret
    exact ⟨by rw [HV.out]; rfl, HB.out⟩
  have d0 : decide (65536 < (l0.length : Int)) = false := decide_eq_false (by omega)
  by_cases h1 : 65536 < l1.length
  · have d1 : decide (65536 < (l1.length : Int)) = true := decide_eq_true (by omega)
    have HV := Aside0.mk (show checkF l0 l1 l2 = 3 by rw [HF.out, if_pos (.inr (.inl h1))])
    clear h0 h1
    go_enter Try.func34, Try.ntmps34
    go_wp2
    go_ret
    exact ⟨by rw [HV.out]; rfl, HB.out⟩
  have d1 : decide (65536 < (l1.length : Int)) = false := decide_eq_false (by omega)
  by_cases h2 : 65536 < l2.length
  · have d2 : decide (65536 < (l2.length : Int)) = true := decide_eq_true (by omega)
    have HV := Aside0.mk (show checkF l0 l1 l2 = 3 by rw [HF.out, if_pos (.inr (.inr h2))])
    clear h0 h1 h2
    go_enter Try.func34, Try.ntmps34
    go_wp2
    go_ret
    exact ⟨by rw [HV.out]; rfl, HB.out⟩
  have d2 : decide (65536 < (l2.length : Int)) = false := decide_eq_false (by omega)
  have HV := Aside0.mk (show checkF l0 l1 l2 = if l0.any p47 = true ∨ l1.any p48 = true then 1 else 0 by rw [HF.out, if_neg (by omega)])
  have C0 := Aside0.mk (contains_below0_calls A0 c0 l0 _ (Kd.C_below H0.out HB.out))
  have C1 := Aside0.mk (fun n => contains_noTick_calls A1 c1 l1 _ (Kd.C_drewN (Kd.C_below H1.out HB.out) n))
  clear h0 h1 h2
  cases a0 : l0.any p47 with
  | true =>
    have A0' := Aside0.mk a0
    clear a0
    go_enter Try.func34, Try.ntmps34
    go_wp2_with (go_at_call 37; refine C0.out.mono ?_; rintro e w' ⟨rfl, ⟨n, rfl⟩⟩; rw [A0'.out])
    go_ret
    exact ⟨by rw [HV.out, if_pos (.inl A0'.out)]; rfl, pw_below_drewN HB.out n⟩
  | false =>
    have A0' := Aside0.mk a0
    clear a0
    cases a1 : l1.any p48 with
    | true =>
      have A1' := Aside0.mk a1
      clear a1
      go_enter Try.func34, Try.ntmps34
      go_wp2_with (first | (go_at_call 37; refine C0.out.mono ?_; rintro e w' ⟨rfl, ⟨n, rfl⟩⟩; rw [A0'.out]) | (go_at_call 37; refine (C1.out n).mono ?_; rintro e w' ⟨rfl, ⟨m, rfl⟩⟩; rw [A1'.out]))
      go_ret
      exact ⟨by rw [HV.out, if_pos (.inr A1'.out)]; rfl, pw_below_drewN HB.out _⟩
    | false =>
      have A1' := Aside0.mk a1
      clear a1
      go_enter Try.func34, Try.ntmps34
      go_wp2_with (first | (go_at_call 37; refine C0.out.mono ?_; rintro e w' ⟨rfl, ⟨n, rfl⟩⟩; rw [A0'.out]) | (go_at_call 37; refine (C1.out n).mono ?_; rintro e w' ⟨rfl, ⟨m, rfl⟩⟩; rw [A1'.out]))
      go_ret
      exact ⟨by rw [HV.out, if_neg (by rw [A0'.out, A1'.out]; simp)]; rfl, pw_below_drewN HB.out _⟩
end Go.Proofs.Ytompgphlinjglaa.P
