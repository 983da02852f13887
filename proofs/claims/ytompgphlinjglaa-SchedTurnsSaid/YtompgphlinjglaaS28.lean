/- SchedTurns: the plain facts. -/
import Derived.Test.YtompgphlinjglaaS26
namespace Go.Proofs.Ytompgphlinjglaa.P
open Go.RowKit Go.Proofs.YtompgphlinjglaaW.PrintWords Go.Proofs.YtompgphlinjglaaW.PrintLast Go.Proofs.YtompgphlinjglaaW.PrintMore
set_option linter.unusedVariables false
set_option linter.unusedSimpArgs false

/-- The loop behind j adds. -/
def TZ (N : Nat) (ticks : List Int) (j : Nat) : LS := ⟨[], ticks, [], List.replicate j ⟨zActs N, 0, 0, []⟩, 0, 0, 0, 0⟩
theorem TZ_zero (N : Nat) (ticks : List Int) : S0 [] ticks [] = TZ N ticks 0 := rfl
theorem TZ_add (N : Nat) (ticks : List Int) (j : Nat) (hj : j < 64) : addF (TZ N ticks j) (zActs N) = TZ N ticks (j + 1) := by
  have hl : (TZ N ticks j).tasks.length = j := List.length_replicate
  rw [addF_go (by rw [hl]; exact hj)]
  show (⟨[], ticks, [], List.replicate j _ ++ [_], 0, 0, 0, 0⟩ : LS) = _
  unfold TZ newT
  rw [List.replicate_succ']
theorem good_TZ (N : Nat) (ticks : List Int) (j : Nat) (hN : N ≤ 8796093022208) (ht : ticks.length ≤ 65536) (hj : j ≤ 64) : Good 0 (TZ N ticks j) := by
  refine ⟨?_, fun t h => ?_, Nat.le_refl _, Nat.le_refl _, by show 0 ≤ 65536; omega, ht, by show 0 ≤ 65536; omega, Nat.le_refl _⟩
  · show (List.replicate j _).length ≤ 64
    rw [List.length_replicate]; exact hj
  · rw [(List.mem_replicate.1 h).2]
    exact ⟨Nat.le_refl _, Nat.zero_le _, by show (zActs N).length ≤ _; rw [zActs_len]; exact hN, by show (-1 : Int) ≤ 0; omega⟩
theorem zmove {S : LS} {k N p : Nat} (h : taskF S k = ⟨zActs N, p, 0, []⟩) (hp : p + 1 < N) : moveF S k = setT S k ⟨zActs N, p + 1, 0, []⟩ := by
  have e : actF ⟨zActs N, p, 0, []⟩ = (0, 0) := zActs_at N p
  have hl : (zActs N).length = N := zActs_len N
  have hw : wakesF ⟨zActs N, p, 0, []⟩ = [] := by unfold wakesF; rw [e]; simp
  have hwt : waitF ⟨zActs N, p, 0, []⟩ = 0 := by unfold waitF; rw [e]; simp
  have hd : doneF ⟨zActs N, p, 0, []⟩ = false := decide_eq_false (by show ¬ (zActs N).length ≤ p + 1; rw [hl]; omega)
  have hdr : drewT ⟨zActs N, p, 0, []⟩ = 0 := by unfold drewT; rw [e]; simp
  have ho : ownT S.clock (drawV S) ⟨zActs N, p, 0, []⟩ = ⟨zActs N, p + 1, 0, []⟩ := by
    unfold ownT tellF
    rw [e, if_pos (by show p < (zActs N).length; rw [hl]; omega)]
    rfl
  unfold moveF
  rw [h]
  show endF (List.foldl (fun s c => wakeF c s) (ownF S k) (wakesF ⟨zActs N, p, 0, []⟩)) k (doneF ⟨zActs N, p, 0, []⟩) (waitF ⟨zActs N, p, 0, []⟩) = _
  rw [hw, hwt, hd]
  show endF (ownF S k) k false 0 = _
  unfold endF
  rw [if_neg (by simp), if_neg (by omega)]
  unfold ownF
  rw [h, hdr, ho]
  rfl
/-- The loop behind i steps. -/
structure TI (n m : Nat) (ticks : List Int) (i : Nat) (T : LS) : Prop where
  ticks : T.ticks = ticks
  len : T.tasks.length = n
  each : ∀ t, t < n → taskF T t = ⟨zActs (m + 1), if t < i % n then i / n + 1 else i / n, 0, []⟩
  count : T.count = i
  good : Good i T
theorem TI.zero {n m : Nat} {ticks : List Int} (hn : 0 < n) (h64 : n ≤ 64) (hm : m ≤ 49) (ht : ticks.length ≤ 65536) : TI n m ticks 0 (TZ (m + 1) ticks n) := by
  refine ⟨rfl, List.length_replicate, fun t h => ?_, rfl, good_TZ _ _ _ (by omega) ht h64⟩
  rw [Nat.zero_mod, Nat.zero_div, if_neg (Nat.not_lt_zero _)]
  show (List.replicate n _).getD t default = _
  rw [List.getD_eq_getElem?_getD, List.getElem?_replicate, if_pos h]
  rfl
theorem ready_all {T : LS} (h : ∀ t, t < T.tasks.length → (taskF T t).wait = 0) : readyF T = (List.range T.tasks.length).map Int.ofNat := by
  have hl : (waitsF T).length = T.tasks.length := List.length_map _
  unfold readyF readyW readyTo
  rw [hl]
  congr 1
  refine List.filter_eq_self.2 (fun a ha => ?_)
  have ha' := List.mem_range.1 ha
  have e : (waitsF T).getD a 0 = (taskF T a).wait := by
    unfold waitsF taskF
    simp [List.getD_eq_getElem?_getD, List.getElem?_eq_getElem ha']
  rw [e, h a ha']
  rfl
section
variable {n m : Nat} {ticks : List Int} {i : Nat} {T : LS}
theorem TI.ready (h : TI n m ticks i T) : readyF T = (List.range n).map Int.ofNat := by
  rw [ready_all (fun t ht => by rw [h.each t (by rw [← h.len]; exact ht)]), h.len]
theorem TI.steps (h : TI n m ticks i T) (hn : 0 < n) : stepsF T i = true := by
  unfold stepsF
  rw [h.ready]
  cases n with
  | zero => omega
  | succ n => simp [List.range_succ]
theorem TI.goes (h : TI n m ticks i T) (hn : 0 < n) : goesF T i = i % n := by
  have hlt := Nat.mod_lt i hn
  unfold goesF
  rw [h.ready, List.length_map, List.length_range, ← Int.natCast_emod, Int.toNat_natCast, List.getD_eq_getElem?_getD, List.getElem?_map, List.getElem?_range hlt]
  rfl
theorem TI.who (h : TI n m ticks i T) (hn : 0 < n) : whoF T i = ((i % n : Nat) : Int) := by
  unfold whoF
  rw [if_pos (h.steps hn), h.goes hn]
theorem tick_fields (S : LS) : (tickF S).tasks = S.tasks ∧ (tickF S).ticks = S.ticks := by unfold tickF; split <;> exact ⟨rfl, rfl⟩
theorem TI.step_eq (h : TI n m ticks i T) (hn : 0 < n) (hi : i < n * m) : stepF T i = { setT (tickF T) (i % n) ⟨zActs (m + 1), i / n + 1, 0, []⟩ with count := i + 1 } := by
  have hlt := Nat.mod_lt i hn
  have hq : i / n < m := Nat.div_lt_of_lt_mul hi
  have ht : taskF (tickF T) (i % n) = ⟨zActs (m + 1), i / n, 0, []⟩ := by
    have := h.each (i % n) hlt
    rw [if_neg (Nat.lt_irrefl _)] at this
    unfold taskF at this ⊢
    rw [(tick_fields T).1]; exact this
  unfold stepF
  rw [if_pos (h.steps hn), h.goes hn, zmove ht (by omega), h.count]
theorem TI.clock (h : TI n m ticks i T) (hn : 0 < n) (hi : i < n * m) : (stepF T i).clock = if i < ticks.length then IntKind.u64.wrap (T.clock + IntKind.u64.wrap (ticks.getD i 0)) else T.clock := by
  rw [h.step_eq hn hi]
  show (tickF T).clock = _
  unfold tickF
  rw [h.count, h.ticks]
  split <;> rfl
theorem TI.next (h : TI n m ticks i T) (hn : 0 < n) (hi : i < n * m) : TI n m ticks (i + 1) (stepF T i) := by
  have hlt := Nat.mod_lt i hn
  have hg := good_step h.good (i : Int)
  have he := h.step_eq hn hi
  have ht : (stepF T i).tasks = T.tasks.set (i % n) ⟨zActs (m + 1), i / n + 1, 0, []⟩ := by rw [he]; show (tickF T).tasks.set _ _ = _; rw [(tick_fields T).1]
  refine ⟨by rw [he]; exact (tick_fields T).2.trans h.ticks, by rw [ht, List.length_set]; exact h.len, fun t h2 => ?_, by rw [he], hg⟩
  have hd : n * (i / n) + i % n = i := Nat.div_add_mod i n
  have key : (i + 1) % n = (if i % n + 1 = n then 0 else i % n + 1) ∧ (i + 1) / n = (if i % n + 1 = n then i / n + 1 else i / n) := by
    by_cases hr : i % n + 1 = n
    · rw [if_pos hr, if_pos hr]
      have e : i + 1 = n * (i / n + 1) := by rw [Nat.mul_add, Nat.mul_one]; omega
      exact ⟨by rw [e]; exact Nat.mul_mod_right _ _, by rw [e]; exact Nat.mul_div_cancel_left _ hn⟩
    · rw [if_neg hr, if_neg hr]
      have e : i + 1 = n * (i / n) + (i % n + 1) := by omega
      refine ⟨?_, ?_⟩
      · rw [e, Nat.mul_add_mod, Nat.mod_eq_of_lt (by omega)]
      · have : (n * (i / n) + (i % n + 1)) / n = i / n + (i % n + 1) / n := Nat.mul_add_div hn _ _
        have d0 : (i % n + 1) / n = 0 := Nat.div_eq_of_lt (by omega)
        rw [e, this, d0, Nat.add_zero]
  have ho := h.each t h2
  unfold taskF at ho ⊢
  rw [ht, List.getD_eq_getElem?_getD, List.getElem?_set]
  rw [key.1, key.2]
  by_cases ht1 : i % n = t
  · rw [if_pos ht1, if_pos (by rw [h.len]; exact hlt)]
    by_cases hr : i % n + 1 = n
    · rw [if_pos hr, if_pos hr, if_neg (Nat.not_lt_zero _)]; rfl
    · rw [if_neg hr, if_neg hr, if_pos (by omega)]; rfl
  · rw [if_neg ht1, ← List.getD_eq_getElem?_getD, ho]
    by_cases hr : i % n + 1 = n
    · rw [if_pos hr, if_pos hr, if_pos (by omega), if_neg (Nat.not_lt_zero _)]
    · rw [if_neg hr, if_neg hr]
      by_cases hh : t < i % n
      · rw [if_pos hh, if_pos (by omega)]
      · rw [if_neg hh, if_neg (by omega)]
end
end Go.Proofs.Ytompgphlinjglaa.P
