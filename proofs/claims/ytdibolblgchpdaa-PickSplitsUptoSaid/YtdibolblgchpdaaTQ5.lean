/- Next, of the program and of the reference: one contract each, by the level that is full. -/
import Derived.Test.YtdibolblgchpdaaTQ4
namespace Go.Proofs.Ytdibolblgchpdaa.P
open Go.RowKit Go.Proofs.YtdibolblgchpdaaW.PrintWords Go.Proofs.YtdibolblgchpdaaW.PrintLast Go.Proofs.YtdibolblgchpdaaW.PrintMore
set_option linter.unusedVariables false
set_option linter.unusedSimpArgs false
section
variable {ls : List (List S44)} {o0 o1 o2 o3 o4 o5 o6 : Int}
theorem cond_pos (hm : mayB o0 o1 o2 o3 o4 o5 o6 = true) {n : Nat} (h : condF ls o4 o5 o6 n = true) : 0 < (rd_L3 ls (n : Int)).length ∧ n < ls.length := by
  have h1 : n < ls.length := by
    by_cases hn : n < ls.length
    · exact hn
    · rw [cond_out hm n (by omega)] at h
      cases h
  refine ⟨?_, h1⟩
  obtain ⟨f1, f2, f3, f4, f5⟩ := may_facts hm
  rcases Nat.eq_zero_or_pos (rd_L3 ls (n : Int)).length with h0 | h0
  · exfalso
    have he := List.eq_nil_of_length_eq_zero h0
    rw [rd_lvl] at he
    unfold condF at h
    by_cases hz : n = 0
    · subst hz
      rw [if_pos rfl, show lvl ls 0 = [] from he] at h
      have := of_decide_eq_true h
      simp at this
      omega
    · rw [if_neg hz, he] at h
      have h2 := of_decide_eq_true h
      have h3 := boundI_le f2 f3 f4 f5 (n - 1)
      have h4 : sumW [] = 0 := rfl
      omega
  · exact h0
end
/-- What Next answers: the job, and whether there is one. -/
def nextF (ls : List (List S44)) (o0 o1 o2 o3 o4 o5 o6 : Int) : S33 × Bool :=
  if mayB o0 o1 o2 o3 o4 o5 o6 = true ∧ okF ls = true then (match fullV (condF ls o4 o5 o6) with | some n => (jobF ls n, true) | none => (z33, false)) else (z33, false)
theorem Kd_R_z (W : World) (b : Nat) : Kd.R k63 63 W b (fun _ => True) (.slice none 0 0) [] := Kd.R_nil _ _ _ _ _
/-- pick.Next. -/
theorem pnext (A : Option Addr) (c : Nat) (ls : List (List S44)) (o0 o1 o2 o3 o4 o5 o6 : Int) (w : World) (hC : Kd.C (Kd.slice 44 k44) w A ls.length ls) (hc : ls.length ≤ c) :
    Calls Try.prog 9 #[.agg #[.slice A ls.length c], .agg #[.int .i64 o0, .int .i64 o1, .int .i64 o2, .int .i64 o3, .int .i64 o4, .int .i64 o5, .int .i64 o6]] w fun e w' => ∃ v, e = .returned (.tuple #[.agg #[.int .i64 (nextF ls o0 o1 o2 o3 o4 o5 o6).1.f0, v, .bool (nextF ls o0 o1 o2 o3 o4 o5 o6).1.f2], .bool (nextF ls o0 o1 o2 o3 o4 o5 o6).2]) ∧ Kd.R k63 63 w' w.heap.size (fun _ => True) v (nextF ls o0 o1 o2 o3 o4 o5 o6).1.f1 ∧ Below w.heap.size w w' := by
  unfold nextF
  by_cases hm : mayB o0 o1 o2 o3 o4 o5 o6 = true
  · have h1 := may_val o0 o1 o2 o3 o4 o5 o6
    rw [hm] at h1
    by_cases hr : okF ls = true
    · have h2 := right_val ls
      rw [hr] at h2
      rw [if_pos ⟨hm, hr⟩]
      obtain ⟨k, hk⟩ := (pfull_ev hm (fun n => Nat.le_trans (okF_lvl hr n) (by decide))).rounds
      cases hf : fullV (condF ls o4 o5 o6) with
      | none =>
        have : fullP (condF ls o4 o5 o6) = (0, false) := by unfold fullP; rw [hf]
        rw [this] at hk
        refine (next_no3 k 0 A c ls o0 o1 o2 o3 o4 o5 o6 w hC hc h1 h2 hk).mono ?_
        rintro e w' ⟨rfl, hb⟩
        exact ⟨_, rfl, Kd_R_z _ _, hb⟩
      | some n =>
        have : fullP (condF ls o4 o5 o6) = ((n : Int), true) := by unfold fullP; rw [hf]
        rw [this] at hk
        obtain ⟨hn5, hcn⟩ := fullV_some hf
        obtain ⟨hp, _⟩ := cond_pos hm hcn
        refine (next_yes k n A c ls o0 o1 o2 o3 o4 o5 o6 w hC hc h1 h2 hk hn5 (by rw [← rd_lvl]; exact hp) (okF_lvl hr)).mono ?_
        rintro e w' ⟨v, rfl, hR, hb⟩
        exact ⟨v, rfl, hR, hb⟩
    · have h2 := right_val ls
      rw [Bool.eq_false_iff.mpr hr] at h2
      rw [if_neg (fun h => hr h.2)]
      refine (next_no2 A c ls o0 o1 o2 o3 o4 o5 o6 w hC hc h1 h2).mono ?_
      rintro e w' ⟨rfl, hb⟩
      exact ⟨_, rfl, Kd_R_z _ _, hb⟩
  · have h1 := may_val o0 o1 o2 o3 o4 o5 o6
    rw [Bool.eq_false_iff.mpr hm] at h1
    rw [if_neg (fun h => hm h.1)]
    refine (next_no1 A c ls o0 o1 o2 o3 o4 o5 o6 w h1).mono ?_
    rintro e w' ⟨rfl, hb⟩
    exact ⟨_, rfl, Kd_R_z _ _, hb⟩
/-- pick.Rests and the reference's. -/
def restsF (ls : List (List S44)) (o0 o1 o2 o3 o4 o5 o6 : Int) : Bool := mayB o0 o1 o2 o3 o4 o5 o6 && okF ls && (fullV (condF ls o4 o5 o6)).isNone
theorem prests_ev (ls : List (List S44)) (o0 o1 o2 o3 o4 o5 o6 : Int) : Ev (fun k => pick_Rests.f k ls o0 o1 o2 o3 o4 o5 o6) (restsF ls o0 o1 o2 o3 o4 o5 o6) := by
  unfold pick_Rests.f restsF
  rw [may_val, right_val]
  simp only [Option.bind_some]
  by_cases hm : mayB o0 o1 o2 o3 o4 o5 o6 = true
  · by_cases hr : okF ls = true
    · simp only [if_pos hm, if_pos hr]
      refine Ev.bind (pfull_ev hm (fun n => Nat.le_trans (okF_lvl hr n) (by decide))) ?_
      rw [hm, hr]
      unfold fullP
      cases fullV (condF ls o4 o5 o6) <;> exact Ev.now _
    · simp only [if_pos hm, if_neg hr]
      rw [Bool.eq_false_iff.mpr hr]
      simp only [Bool.and_false, Bool.false_and]
      exact Ev.now _
  · simp only [if_neg hm]
    rw [Bool.eq_false_iff.mpr hm]
    simp only [Bool.false_and]
    exact Ev.now _
end Go.Proofs.Ytdibolblgchpdaa.P
