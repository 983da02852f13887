/- SchedWaits: the plain facts. -/
import Derived.Test.YtompgphlinjglaaS25
namespace Go.Proofs.Ytompgphlinjglaa.P
open Go.RowKit Go.Proofs.YtompgphlinjglaaW.PrintWords Go.Proofs.YtompgphlinjglaaW.PrintLast Go.Proofs.YtompgphlinjglaaW.PrintMore
set_option linter.unusedVariables false
set_option linter.unusedSimpArgs false

def wActs (ch : Int) : List (Int × Int) := [(2, ch), (4, 0), (1, 0)]
def zActs (n : Nat) : List (Int × Int) := List.replicate n (0, 0)
def W0 (ch : Int) : LS := ⟨[], [], [], [⟨wActs ch, 0, 0, []⟩, ⟨zActs 300, 0, 0, []⟩], 0, 0, 0, 0⟩
def WS (ch x : Int) (j : Nat) : LS := ⟨[], [], [], [⟨wActs ch, 1, x, []⟩, ⟨zActs 300, j, 0, []⟩], 0, j + 1, 0, 0⟩
theorem W0_eq (ch : Int) : addF (addF (S0 [] [] []) (wActs ch)) (zActs 300) = W0 ch := rfl
theorem zActs_at (n j : Nat) : (zActs n).getD j (0, 0) = (0, 0) := by
  unfold zActs
  rw [List.getD_eq_getElem?_getD, List.getElem?_replicate]
  split <;> rfl
theorem zCells (n : Nat) : actCells (zActs n) = List.replicate (n * 2) (.int .i64 0) := by
  induction n with
  | zero => rfl
  | succ n ih =>
    have e : actCells (zActs (n + 1)) = .int .i64 0 :: .int .i64 0 :: actCells (zActs n) := rfl
    rw [e, ih, show (n + 1) * 2 = n * 2 + 1 + 1 by omega, List.replicate_succ, List.replicate_succ]
theorem madeActs (n : Nat) : madeCells (Value.agg #[.int .i64 0, .int .i64 0]).cells (n * 2) = (actCells (zActs n)).toArray := by
  rw [zCells]
  have hc : (Value.agg #[.int .i64 0, .int .i64 0]).cells = #[.int .i64 0, .int .i64 0] := by first | rfl | kernel_rfl | (simp [Value.cells]; done)
  rw [hc]
  apply Array.ext
  · simp [size_madeCells]
  · intro i h1 h2
    have h3 : i % 2 = 0 ∨ i % 2 = 1 := by omega
    rcases h3 with h3 | h3 <;> simp [madeCells, h3]
theorem makeActs (n : Nat) (hn : n ≤ 8796093022208) (W : World) : (Instr.makeSlice 32 (.int .i64 (n : Int)) (.int .i64 (n : Int))).run Try.prog W = .ok (.slice (some ⟨W.heap.size, 0, none⟩) n n) (W.alloc (.cells (actCells (zActs n)).toArray 31)) := by
  obtain ⟨i0, hi, hzz⟩ := Option.map_eq_some_iff.1 info31
  simp only [Prod.mk.injEq] at hzz
  obtain ⟨hz0, hz1, hz2⟩ := hzz
  have hr := run_make (P := Try.prog) W 32 31 i0 _ Try.underlying32 hi hz0 .i64 .i64 (n : Int) (n : Int) (by omega) (by omega)
    (by rw [hz2]; omega) (by omega)
  simp only [Int.toNat_natCast] at hr
  rw [hz1, madeActs] at hr
  exact hr
theorem zActs_len (n : Nat) : (zActs n).length = n := List.length_replicate
theorem good_of2 {S : LS} {t0 t1 : TS} {B : Nat} (hS : S.tasks = [t0, t1]) (h0 : S.picks = [] ∧ S.ticks = [] ∧ S.draws = [] ∧ S.drawn = 0 ∧ S.used = 0) (hc : S.count ≤ B) (g0 : t0.told.length ≤ t0.pos ∧ t0.pos ≤ t0.acts.length ∧ t0.acts.length ≤ 8796093022208 ∧ -1 ≤ t0.wait) (g1 : t1.told.length ≤ t1.pos ∧ t1.pos ≤ t1.acts.length ∧ t1.acts.length ≤ 8796093022208 ∧ -1 ≤ t1.wait) : Good B S := by
  obtain ⟨a, b, c, d, e⟩ := h0
  refine ⟨by rw [hS]; show 2 ≤ 64; omega, fun t ht => ?_, by rw [d]; omega, hc, by rw [a]; decide, by rw [b]; decide, by rw [c]; decide, by rw [e]; omega⟩
  rw [hS] at ht
  rcases List.mem_cons.1 ht with rfl | ht
  · exact g0
  · rw [List.mem_singleton.1 ht]; exact g1
theorem good_W0 (ch : Int) : Good 0 (W0 ch) :=
  good_of2 rfl ⟨rfl, rfl, rfl, rfl, rfl⟩ (Nat.le_refl _) ⟨Nat.le_refl _, Nat.zero_le _, (by show 3 ≤ 8796093022208; omega), (by show (-1 : Int) ≤ 0; omega)⟩ ⟨Nat.le_refl _, Nat.zero_le _, (by show (zActs 300).length ≤ 8796093022208; rw [zActs_len]; omega), (by show (-1 : Int) ≤ 0; omega)⟩
theorem good_WS (ch x : Int) (j : Nat) (hj : j ≤ 300) (hx : -1 ≤ x) : Good 301 (WS ch x j) :=
  good_of2 rfl ⟨rfl, rfl, rfl, rfl, rfl⟩ (by show j + 1 ≤ 301; omega) ⟨Nat.zero_le _, (by show 1 ≤ 3; omega), (by show 3 ≤ 8796093022208; omega), hx⟩ ⟨Nat.zero_le _, (by show j ≤ (zActs 300).length; rw [zActs_len]; omega), (by show (zActs 300).length ≤ 8796093022208; rw [zActs_len]; omega), (by show (-1 : Int) ≤ 0; omega)⟩
theorem W0_ready (ch : Int) : readyF (W0 ch) = [0, 1] := rfl
theorem W0_steps (ch : Int) : stepsF (W0 ch) 0 = true := rfl
theorem W0_goes (ch : Int) : goesF (W0 ch) 0 = 0 := rfl
theorem W0_step (ch : Int) : stepF (W0 ch) 0 = WS ch (if 1 ≤ ch ∧ ch ≤ 1024 then ch else 0) 0 := by
  show { moveF (tickF (W0 ch)) 0 with count := 1 } = _
  by_cases h : 1 ≤ ch ∧ ch ≤ 1024
  · rw [if_pos h]
    show { endF (ownF (W0 ch) 0) 0 false ch with count := 1 } = _
    unfold endF
    rw [if_neg (by simp), if_pos h]
    rfl
  · rw [if_neg h]
    show { endF (ownF (W0 ch) 0) 0 false ch with count := 1 } = _
    unfold endF
    rw [if_neg (by simp), if_neg h]
    rfl
theorem WS_ready (ch : Int) (h : ch ≠ 0) (j : Nat) : readyF (WS ch ch j) = [1] := by
  show readyTo [ch, 0] 2 = [1]
  rw [readyTo_yes [ch, 0] 1 rfl, readyTo_no [ch, 0] 0 h]
  rfl
theorem WS_steps (ch : Int) (h : ch ≠ 0) (j : Nat) (pick : Int) : stepsF (WS ch ch j) pick = decide (0 ≤ pick) := by
  unfold stepsF
  rw [WS_ready ch h]
  simp
theorem WS_goes (ch : Int) (h : ch ≠ 0) (j : Nat) (pick : Int) : goesF (WS ch ch j) pick = 1 := by
  unfold goesF
  rw [WS_ready ch h]
  simp [Int.emod_one]
theorem WS_who (ch : Int) (h : ch ≠ 0) (j : Nat) (pick : Int) : whoF (WS ch ch j) pick = if 0 ≤ pick then 1 else 0 := by
  unfold whoF
  rw [WS_steps ch h, WS_goes ch h]
  by_cases hp : 0 ≤ pick <;> simp [hp]
theorem WS_move (ch : Int) (j : Nat) (hj : j < 299) : { moveF (tickF (WS ch ch j)) 1 with count := j + 2 } = WS ch ch (j + 1) := by
  have e : actF ⟨zActs 300, j, 0, []⟩ = (0, 0) := zActs_at 300 j
  have hl : (zActs 300).length = 300 := zActs_len 300
  have ht : tickF (WS ch ch j) = WS ch ch j := rfl
  have hf : taskF (WS ch ch j) 1 = ⟨zActs 300, j, 0, []⟩ := rfl
  have hw : wakesF ⟨zActs 300, j, 0, []⟩ = [] := by unfold wakesF; rw [e]; simp
  have hwt : waitF ⟨zActs 300, j, 0, []⟩ = 0 := by unfold waitF; rw [e]; simp
  have hd : doneF ⟨zActs 300, j, 0, []⟩ = false := decide_eq_false (by show ¬ (zActs 300).length ≤ j + 1; rw [hl]; omega)
  have hdr : drewT ⟨zActs 300, j, 0, []⟩ = 0 := by unfold drewT; rw [e]; simp
  have ho : ownT 0 (drawV (WS ch ch j)) ⟨zActs 300, j, 0, []⟩ = ⟨zActs 300, j + 1, 0, []⟩ := by
    unfold ownT tellF
    rw [e, if_pos (by show j < (zActs 300).length; rw [hl]; omega)]
    rfl
  unfold moveF
  rw [ht, hf]
  show { endF (List.foldl (fun s c => wakeF c s) (ownF (WS ch ch j) 1) (wakesF ⟨zActs 300, j, 0, []⟩)) 1 (doneF ⟨zActs 300, j, 0, []⟩) (waitF ⟨zActs 300, j, 0, []⟩) with count := j + 2 } = _
  rw [hw, hwt, hd]
  show { endF (ownF (WS ch ch j) 1) 1 false 0 with count := j + 2 } = _
  unfold endF
  rw [if_neg (by simp), if_neg (by omega)]
  unfold ownF
  rw [hf, hdr]
  show { setT (WS ch ch j) 1 (ownT 0 (drawV (WS ch ch j)) ⟨zActs 300, j, 0, []⟩) with drawn := 0, count := j + 2 } = _
  rw [ho]
  rfl
theorem WS_step (ch : Int) (h : ch ≠ 0) (j : Nat) (hj : j < 299) (pick : Int) : stepF (WS ch ch j) pick = WS ch ch (if 0 ≤ pick then j + 1 else j) := by
  unfold stepF
  rw [WS_steps ch h, WS_goes ch h]
  by_cases hp : 0 ≤ pick
  · rw [if_pos (by simpa using hp), if_pos hp]
    exact WS_move ch j hj
  · rw [if_neg (by simpa using hp), if_neg hp]
theorem WS_wakeNot (ch x : Int) (h : 1 ≤ ch) (hx : x ≠ ch) (j : Nat) : wokenF x (WS ch ch j) = 0 ∧ wakeF x (WS ch ch j) = WS ch ch j := by
  unfold wokenF wakeF
  by_cases h1 : x < 1
  · rw [if_pos h1, if_pos h1]; exact ⟨rfl, rfl⟩
  · rw [if_neg h1, if_neg h1]
    refine ⟨?_, ?_⟩
    · show ((wokenTo x [ch, 0] 2 : Nat) : Int) = 0
      rw [wokenTo_no _ _ 1 (by show 1 < 2; omega) (by show (0 : Int) ≠ x; omega), wokenTo_no _ _ 0 (by show 0 < 2; omega) (by show ch ≠ x; omega)]
      rfl
    · show { WS ch ch j with tasks := [wakeT x ⟨wActs ch, 1, ch, []⟩, wakeT x ⟨zActs 300, j, 0, []⟩] } = _
      unfold wakeT
      rw [if_neg (by show ¬ ch = x; omega), if_neg (by show ¬ (0 : Int) = x; omega)]
      rfl
theorem WS_wake (ch : Int) (h : 1 ≤ ch) (j : Nat) : wokenF ch (WS ch ch j) = 1 ∧ wakeF ch (WS ch ch j) = WS ch 0 j := by
  unfold wokenF wakeF
  rw [if_neg (by omega), if_neg (by omega)]
  refine ⟨?_, ?_⟩
  · show ((wokenTo ch [ch, 0] 2 : Nat) : Int) = 1
    rw [wokenTo_no _ _ 1 (by show 1 < 2; omega) (by show (0 : Int) ≠ ch; omega), wokenTo_yes ch [ch, 0] 0 (by show 0 < 2; omega) rfl]
    rfl
  · show { WS ch ch j with tasks := [wakeT ch ⟨wActs ch, 1, ch, []⟩, wakeT ch ⟨zActs 300, j, 0, []⟩] } = _
    unfold wakeT
    rw [if_pos rfl, if_neg (by show ¬ (0 : Int) = ch; omega)]
    rfl
theorem WS_ready0 (ch : Int) (j : Nat) : readyF (WS ch 0 j) = [0, 1] := rfl
end Go.Proofs.Ytompgphlinjglaa.P
