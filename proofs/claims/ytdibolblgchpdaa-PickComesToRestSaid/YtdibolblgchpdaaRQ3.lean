/- Options, bounds, sizes, the full level: the program's are the reference's. -/
import Derived.Test.YtdibolblgchpdaaRQ2
import Derived.Test.YtdibolblgchpdaaRPL0b
import Derived.Test.YtdibolblgchpdaaRPL0c
import Derived.Test.YtdibolblgchpdaaRPL0d
import Derived.Test.YtdibolblgchpdaaRP0
namespace Go.Proofs.Ytdibolblgchpdaa.P
open Go.RowKit Go.Proofs.YtdibolblgchpdaaW.PrintWords Go.Proofs.YtdibolblgchpdaaW.PrintLast Go.Proofs.YtdibolblgchpdaaW.PrintMore
set_option linter.unusedVariables false
set_option linter.unusedSimpArgs false
def mayB (o0 o1 o2 o3 o4 o5 o6 : Int) : Bool := (atriumref12_Options.f o0 o1 o2 o3 o4 o5 o6).getD false
theorem ite_some {c : Prop} [Decidable c] {x y : Option Bool} (hx : ∃ b, x = some b) (hy : ∃ b, y = some b) : ∃ b, (if c then x else y) = some b := by
  split
  · exact hx
  · exact hy
theorem ite_tt {c : Prop} [Decidable c] {x : Option Bool} (h : (if c then x else some false) = some true) : c ∧ x = some true := by
  by_cases hc : c
  · exact ⟨hc, by rwa [if_pos hc] at h⟩
  · rw [if_neg hc] at h
    cases h
theorem opt_val (o0 o1 o2 o3 o4 o5 o6 : Int) : atriumref12_Options.f o0 o1 o2 o3 o4 o5 o6 = some (mayB o0 o1 o2 o3 o4 o5 o6) := by
  have h : ∃ b, atriumref12_Options.f o0 o1 o2 o3 o4 o5 o6 = some b := by
    unfold atriumref12_Options.f
    repeat' (first | exact ⟨_, rfl⟩ | apply ite_some)
  obtain ⟨b, hb⟩ := h
  unfold mayB
  rw [hb]
  rfl
theorem may_val (o0 o1 o2 o3 o4 o5 o6 : Int) : pick_may.f o0 o1 o2 o3 o4 o5 o6 = some (mayB o0 o1 o2 o3 o4 o5 o6) := by
  rw [← opt_val]
  unfold pick_may.f table_Check.f atriumref12_Options.f
  by_cases h0 : o0 ≥ 64
  · by_cases h1 : o0 ≤ 32768
    · by_cases h2 : o1 ≥ 1
      · by_cases h3 : o1 ≤ 64
        · by_cases h4 : o2 ≥ 1
          · by_cases h5 : o2 ≤ 32
            · simp only [if_pos h0, if_pos h1, if_pos h2, if_pos h3, if_pos h4, if_pos h5, if_neg (show ¬ o0 < 64 by omega), if_neg (show ¬ o0 > 32768 by omega), if_neg (show ¬ o1 < 1 by omega), if_neg (show ¬ o1 > 64 by omega), if_neg (show ¬ o2 < 1 by omega), if_neg (show ¬ o2 > 32 by omega), Option.bind_some, if_true]
            · simp only [if_pos h0, if_pos h1, if_pos h2, if_pos h3, if_pos h4, if_neg h5, if_neg (show ¬ o0 < 64 by omega), if_neg (show ¬ o0 > 32768 by omega), if_neg (show ¬ o1 < 1 by omega), if_neg (show ¬ o1 > 64 by omega), if_neg (show ¬ o2 < 1 by omega), if_pos (show o2 > 32 by omega), Option.bind_some]
              rfl
          · simp only [if_pos h0, if_pos h1, if_pos h2, if_pos h3, if_neg h4, if_neg (show ¬ o0 < 64 by omega), if_neg (show ¬ o0 > 32768 by omega), if_neg (show ¬ o1 < 1 by omega), if_neg (show ¬ o1 > 64 by omega), if_pos (show o2 < 1 by omega), Option.bind_some]
            rfl
        · simp only [if_pos h0, if_pos h1, if_pos h2, if_neg h3, if_neg (show ¬ o0 < 64 by omega), if_neg (show ¬ o0 > 32768 by omega), if_neg (show ¬ o1 < 1 by omega), if_pos (show o1 > 64 by omega), Option.bind_some]
          rfl
      · simp only [if_pos h0, if_pos h1, if_neg h2, if_neg (show ¬ o0 < 64 by omega), if_neg (show ¬ o0 > 32768 by omega), if_pos (show o1 < 1 by omega), Option.bind_some]
        rfl
    · simp only [if_pos h0, if_neg h1, if_neg (show ¬ o0 < 64 by omega), if_pos (show o0 > 32768 by omega), Option.bind_some]
      rfl
  · simp only [if_neg h0, if_pos (show o0 < 64 by omega), Option.bind_some]
    rfl
theorem may_facts {o0 o1 o2 o3 o4 o5 o6 : Int} (h : mayB o0 o1 o2 o3 o4 o5 o6 = true) : 1 ≤ o4 ∧ 1 ≤ o5 ∧ o5 ≤ 1048576 ∧ 2 ≤ o6 ∧ o6 ≤ 16 := by
  have h2 := opt_val o0 o1 o2 o3 o4 o5 o6
  rw [h] at h2
  unfold atriumref12_Options.f at h2
  obtain ⟨_, h2⟩ := ite_tt h2
  obtain ⟨_, h2⟩ := ite_tt h2
  obtain ⟨_, h2⟩ := ite_tt h2
  obtain ⟨_, h2⟩ := ite_tt h2
  obtain ⟨_, h2⟩ := ite_tt h2
  obtain ⟨_, h2⟩ := ite_tt h2
  obtain ⟨_, h2⟩ := ite_tt h2
  obtain ⟨_, h2⟩ := ite_tt h2
  obtain ⟨a1, h2⟩ := ite_tt h2
  obtain ⟨a2, h2⟩ := ite_tt h2
  obtain ⟨a3, h2⟩ := ite_tt h2
  obtain ⟨a4, h2⟩ := ite_tt h2
  obtain ⟨a5, h2⟩ := ite_tt h2
  have a6 := of_decide_eq_true (Option.some.inj h2)
  omega
/-! ### Sums -/
def sumW (l : List S44) : Int := l.foldl (fun a t => wrap64 (a + t.f1)) 0
theorem rsizes_l0 (l : List S44) (hl : l.length ≤ 4611686018427387904) (d : Nat) : ∀ (i : Nat) (a : Int), i + d = l.length → Ev (fun k => atriumref12_sizes.l0 k a l (l.length : Int) (i : Int)) ((l.drop i).foldl (fun a t => wrap64 (a + t.f1)) a) := by
  induction d with
  | zero =>
    intro i a he
    rw [List.drop_eq_nil_of_le (by omega)]
    refine Ev.step (f := fun _ => some a) (fun k => ?_) (Ev.now _)
    rw [atriumref12_sizes.l0, if_neg (by omega)]
  | succ d ih =>
    intro i a he
    have hi : i < l.length := by omega
    rw [List.drop_eq_getElem_cons hi]
    refine Ev.step (fun k => ?_) (ih (i + 1) (wrap64 (a + l[i].f1)) (by omega))
    rw [atriumref12_sizes.l0, if_pos (by omega), if_pos (by omega), if_pos (by omega), get44 l i hi, wr1 i (by omega)]
theorem psize_l0 (l : List S44) (hl : l.length ≤ 4611686018427387904) (d : Nat) : ∀ (i : Nat) (a : Int), i + d = l.length → Ev (fun k => pick_size.l0 k a l (l.length : Int) (i : Int)) ((l.drop i).foldl (fun a t => wrap64 (a + t.f1)) a) := by
  induction d with
  | zero =>
    intro i a he
    rw [List.drop_eq_nil_of_le (by omega)]
    refine Ev.step (f := fun _ => some a) (fun k => ?_) (Ev.now _)
    rw [pick_size.l0, if_neg (by omega)]
  | succ d ih =>
    intro i a he
    have hi : i < l.length := by omega
    rw [List.drop_eq_getElem_cons hi]
    refine Ev.step (fun k => ?_) (ih (i + 1) (wrap64 (a + l[i].f1)) (by omega))
    rw [pick_size.l0, if_pos (by omega), if_pos (by omega), if_pos (by omega), get44 l i hi, wr1 i (by omega)]
theorem level_val (ls : List (List S44)) (n : Int) : pick_level.f ls n = some (lvl ls n) := by
  unfold pick_level.f lvl
  by_cases h0 : n < 0
  · rw [if_pos h0, if_pos h0]
  · rw [if_neg h0, if_neg h0]
    by_cases h1 : n ≥ (ls.length : Int)
    · rw [if_pos h1, List.getD_eq_getElem?_getD, List.getElem?_eq_none (by omega)]
      rfl
    · rw [if_neg h1, if_pos (by omega), if_pos (by omega)]
      rfl
theorem psize_ev (ls : List (List S44)) (n : Int) (hl : (lvl ls n).length ≤ 4611686018427387904) : Ev (fun k => pick_size.f k ls n) (sumW (lvl ls n)) := by
  unfold pick_size.f
  refine Ev.bind (g := fun _ => pick_level.f ls n) (by rw [level_val]; exact Ev.now _) ?_
  exact psize_l0 _ hl (lvl ls n).length 0 0 (by omega)
/-! ### Bounds -/
def boundI (o5 o6 : Int) : Nat → Int
  | 0 => o5
  | m + 1 => if 1099511627776 < boundI o5 o6 m * o6 then 1099511627776 else boundI o5 o6 m * o6
theorem boundI_le {o5 o6 : Int} (h1 : 1 ≤ o5) (h2 : o5 ≤ 1048576) (h3 : 2 ≤ o6) (h4 : o6 ≤ 16) : ∀ m, 1 ≤ boundI o5 o6 m ∧ boundI o5 o6 m ≤ 1099511627776
  | 0 => by unfold boundI; omega
  | m + 1 => by
    obtain ⟨i1, i2⟩ := boundI_le h1 h2 h3 h4 m
    have e : boundI o5 o6 (m + 1) = if 1099511627776 < boundI o5 o6 m * o6 then 1099511627776 else boundI o5 o6 m * o6 := rfl
    rw [e]
    have h5 : 1 * 1 ≤ boundI o5 o6 m * o6 := Int.mul_le_mul i1 (by omega) (by omega) (by omega)
    split <;> omega
theorem bmul {b o6 : Int} (h1 : 1 ≤ b) (h2 : b ≤ 1099511627776) (h3 : 2 ≤ o6) (h4 : o6 ≤ 16) : wrap64 (b * o6) = b * o6 := by
  have h5 : 1 * 1 ≤ b * o6 := Int.mul_le_mul h1 (by omega) (by omega) (by omega)
  have h6 : b * o6 ≤ 1099511627776 * 16 := Int.mul_le_mul h2 h4 (by omega) (by omega)
  unfold wrap64
  generalize b * o6 = x at h5 h6
  omega
def boundV (o0 o1 o2 o3 o4 o5 o6 n : Int) : Int := if mayB o0 o1 o2 o3 o4 o5 o6 = true ∧ 1 ≤ n ∧ n < 6 then boundI o5 o6 (n - 1).toNat else 0
theorem pbound_l0 {o0 o1 o2 o3 o4 o5 o6 : Int} (h1 : 1 ≤ o5) (h2 : o5 ≤ 1048576) (h3 : 2 ≤ o6) (h4 : o6 ≤ 16) (m : Nat) (hm : m ≤ 5) (d : Nat) : ∀ i : Nat, i + d = m →
    Ev (fun k => pick_Bound.l0 k (boundI o5 o6 i) (m : Int) (i : Int) o0 o1 o2 o3 o4 o5 o6) (boundI o5 o6 m) := by
  induction d with
  | zero =>
    intro i he
    obtain rfl : i = m := by omega
    refine Ev.step (f := fun _ => some (boundI o5 o6 i)) (fun k => ?_) (Ev.now _)
    rw [pick_Bound.l0, if_neg (by omega)]
  | succ d ih =>
    intro i he
    obtain ⟨i1, i2⟩ := boundI_le h1 h2 h3 h4 i
    refine Ev.step (fun k => ?_) (ih (i + 1) (by omega))
    rw [pick_Bound.l0, if_pos (by omega), bmul i1 i2 h3 h4, wr1 i (by omega)]
    have e : mn (boundI o5 o6 i * o6) 1099511627776 = boundI o5 o6 (i + 1) := by
      unfold mn
      rfl
    rw [e]
theorem pbound_ev (o0 o1 o2 o3 o4 o5 o6 n : Int) (hn : n < 9223372036854775808 ∧ -9223372036854775808 ≤ n) : Ev (fun k => pick_Bound.f k o0 o1 o2 o3 o4 o5 o6 n) (boundV o0 o1 o2 o3 o4 o5 o6 n) := by
  unfold pick_Bound.f boundV
  rw [may_val]
  simp only [Option.bind_some]
  have jt : ∀ k, pick_Bound.j0 (k + 1) n true o0 o1 o2 o3 o4 o5 o6 = some 0 := fun k => by rw [pick_Bound.j0, if_pos rfl]
  by_cases hm : mayB o0 o1 o2 o3 o4 o5 o6 = true
  · obtain ⟨f1, f2, f3, f4, f5⟩ := may_facts hm
    simp only [if_pos hm]
    by_cases h1 : n < 1
    · simp only [if_pos h1]
      rw [if_neg (by omega)]
      exact Ev.step (f := fun _ => some 0) jt (Ev.now _)
    · simp only [if_neg h1]
      by_cases h2 : n ≥ 6
      · rw [decide_eq_true h2, if_neg (by omega)]
        exact Ev.step (f := fun _ => some 0) jt (Ev.now _)
      · rw [decide_eq_false h2, if_pos ⟨hm, by omega, by omega⟩]
        obtain ⟨m, hmn⟩ : ∃ m : Nat, n = (m : Int) + 1 := ⟨(n - 1).toNat, by omega⟩
        have e : (n - 1).toNat = m := by omega
        rw [e]
        have h := pbound_l0 (o0 := o0) (o1 := o1) (o2 := o2) (o3 := o3) (o4 := o4) f2 f3 f4 f5 m (by omega) m 0 (by omega)
        refine Ev.step (fun k => ?_) h
        rw [pick_Bound.j0, if_neg (by decide), show wrap64 (n - 1) = (m : Int) from by unfold wrap64; omega]
        rfl
  · simp only [if_neg hm]
    rw [if_neg (fun h => hm h.1)]
    exact Ev.step (f := fun _ => some 0) jt (Ev.now _)
/-! ### The full level -/
def condF (ls : List (List S44)) (o4 o5 o6 : Int) (n : Nat) : Bool := if n = 0 then decide (o4 ≤ ((lvl ls 0).length : Int)) else decide (boundI o5 o6 (n - 1) < sumW (lvl ls (n : Int)))
def fullV (c : Nat → Bool) : Option Nat := if c 0 = true then some 0 else if c 1 = true then some 1 else if c 2 = true then some 2 else if c 3 = true then some 3 else if c 4 = true then some 4 else if c 5 = true then some 5 else none
def fullP (c : Nat → Bool) : Int × Bool := match fullV c with | some n => ((n : Int), true) | none => (0, false)
theorem fullV_some {c : Nat → Bool} {n : Nat} (h : fullV c = some n) : n ≤ 5 ∧ c n = true := by
  unfold fullV at h
  split at h
  · obtain rfl := Option.some.inj h; exact ⟨by omega, by assumption⟩
  · split at h
    · obtain rfl := Option.some.inj h; exact ⟨by omega, by assumption⟩
    · split at h
      · obtain rfl := Option.some.inj h; exact ⟨by omega, by assumption⟩
      · split at h
        · obtain rfl := Option.some.inj h; exact ⟨by omega, by assumption⟩
        · split at h
          · obtain rfl := Option.some.inj h; exact ⟨by omega, by assumption⟩
          · split at h
            · obtain rfl := Option.some.inj h; exact ⟨by omega, by assumption⟩
            · cases h
section
variable {ls : List (List S44)} {o0 o1 o2 o3 o4 o5 o6 : Int}
theorem bV (hm : mayB o0 o1 o2 o3 o4 o5 o6 = true) (n : Nat) (h1 : 1 ≤ n) (h5 : n ≤ 5) : boundV o0 o1 o2 o3 o4 o5 o6 (n : Int) = boundI o5 o6 (n - 1) := by
  unfold boundV
  rw [if_pos ⟨hm, by omega, by omega⟩]
  congr 1
  omega
theorem pfull_step (hm : mayB o0 o1 o2 o3 o4 o5 o6 = true) (hl : ∀ n : Int, (lvl ls n).length ≤ 4611686018427387904) (n : Nat) (h1 : 1 ≤ n) (h5 : n ≤ 5) (r : Int × Bool)
    (hc : Ev (fun k => pick_full.l0 k ((n + 1 : Nat) : Int) ls o0 o1 o2 o3 o4 o5 o6) r) : Ev (fun k => pick_full.l0 k (n : Int) ls o0 o1 o2 o3 o4 o5 o6) (if condF ls o4 o5 o6 n = true then ((n : Int), true) else r) := by
  have hs := psize_ev ls (n : Int) (hl _)
  have hb := pbound_ev o0 o1 o2 o3 o4 o5 o6 (n : Int) (by omega)
  rw [bV hm n h1 h5] at hb
  unfold condF
  rw [if_neg (show ¬ n = 0 by omega)]
  have e : ∀ k, pick_full.l0 (k + 1) (n : Int) ls o0 o1 o2 o3 o4 o5 o6 = ((pick_size.f k ls (n : Int)).bind fun t130 => ((pick_Bound.f k o0 o1 o2 o3 o4 o5 o6 (n : Int)).bind fun t131 => (if t130 > t131 then (some ((n : Int), true)) else (pick_full.l0 k ((n + 1 : Nat) : Int) ls o0 o1 o2 o3 o4 o5 o6)))) := fun k => by
    rw [pick_full.l0, if_pos (by omega), wr1 n (by omega)]
  refine Ev.step e (Ev.bind hs (Ev.bind hb ?_))
  by_cases hq : boundI o5 o6 (n - 1) < sumW (lvl ls (n : Int))
  · rw [if_pos (decide_eq_true hq)]
    simp only [if_pos (show sumW (lvl ls (n : Int)) > boundI o5 o6 (n - 1) from hq)]
    exact Ev.now _
  · rw [if_neg (by rw [decide_eq_false hq]; decide)]
    simp only [if_neg (show ¬ sumW (lvl ls (n : Int)) > boundI o5 o6 (n - 1) from hq)]
    exact hc
theorem pfull_ev (hm : mayB o0 o1 o2 o3 o4 o5 o6 = true) (hl : ∀ n : Int, (lvl ls n).length ≤ 4611686018427387904) : Ev (fun k => pick_full.f k ls o0 o1 o2 o3 o4 o5 o6) (fullP (condF ls o4 o5 o6)) := by
  unfold pick_full.f
  rw [level_val]
  simp only [Option.bind_some]
  have e6 : Ev (fun k => pick_full.l0 k ((6 : Nat) : Int) ls o0 o1 o2 o3 o4 o5 o6) (0, false) := by
    refine Ev.step (f := fun _ => some (0, false)) (fun k => ?_) (Ev.now _)
    rw [pick_full.l0, if_neg (by decide)]
  have e5 := pfull_step hm hl 5 (by omega) (by omega) _ e6
  have e4 := pfull_step hm hl 4 (by omega) (by omega) _ e5
  have e3 := pfull_step hm hl 3 (by omega) (by omega) _ e4
  have e2 := pfull_step hm hl 2 (by omega) (by omega) _ e3
  have e1 := pfull_step hm hl 1 (by omega) (by omega) _ e2
  have c0 : condF ls o4 o5 o6 0 = decide (o4 ≤ ((lvl ls 0).length : Int)) := rfl
  by_cases h0 : o4 ≤ ((lvl ls 0).length : Int)
  · simp only [if_pos (show ((lvl ls 0).length : Int) ≥ o4 from h0)]
    have : fullP (condF ls o4 o5 o6) = (0, true) := by
      unfold fullP fullV
      rw [c0, decide_eq_true h0]
      rfl
    rw [this]
    exact Ev.now _
  · simp only [if_neg (show ¬ ((lvl ls 0).length : Int) ≥ o4 from h0)]
    have : fullP (condF ls o4 o5 o6) = (if condF ls o4 o5 o6 1 = true then (((1 : Nat) : Int), true) else if condF ls o4 o5 o6 2 = true then (((2 : Nat) : Int), true) else if condF ls o4 o5 o6 3 = true then (((3 : Nat) : Int), true) else if condF ls o4 o5 o6 4 = true then (((4 : Nat) : Int), true) else if condF ls o4 o5 o6 5 = true then (((5 : Nat) : Int), true) else (0, false)) := by
      unfold fullP fullV
      rw [c0, decide_eq_false h0]
      generalize condF ls o4 o5 o6 1 = b1, condF ls o4 o5 o6 2 = b2, condF ls o4 o5 o6 3 = b3, condF ls o4 o5 o6 4 = b4, condF ls o4 o5 o6 5 = b5
      cases b1 <;> cases b2 <;> cases b3 <;> cases b4 <;> cases b5 <;> rfl
    rw [this]
    exact e1
theorem lvl_out (n : Nat) (h : ls.length ≤ n) : lvl ls (n : Int) = [] := by
  unfold lvl
  rw [if_neg (by omega), Int.toNat_natCast, List.getD_eq_getElem?_getD, List.getElem?_eq_none h]
  rfl
theorem cond_out (hm : mayB o0 o1 o2 o3 o4 o5 o6 = true) (n : Nat) (h : ls.length ≤ n) : condF ls o4 o5 o6 n = false := by
  obtain ⟨f1, f2, f3, f4, f5⟩ := may_facts hm
  unfold condF
  by_cases h0 : n = 0
  · subst h0
    rw [if_pos rfl, show lvl ls 0 = [] from lvl_out 0 h]
    exact decide_eq_false (by simp; omega)
  · rw [if_neg h0, lvl_out n h]
    have := boundI_le f2 f3 f4 f5 (n - 1)
    exact decide_eq_false (by show ¬ _ < (0 : Int); omega)
end
end Go.Proofs.Ytdibolblgchpdaa.P
