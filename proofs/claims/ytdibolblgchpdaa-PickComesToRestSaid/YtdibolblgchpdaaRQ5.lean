/- Next, of the program and of the reference: one contract each, by the level that is full. -/
import Derived.Test.YtdibolblgchpdaaRQ4
namespace Go.Proofs.Ytdibolblgchpdaa.P
open Go.RowKit Go.Proofs.YtdibolblgchpdaaW.PrintWords Go.Proofs.YtdibolblgchpdaaW.PrintLast Go.Proofs.YtdibolblgchpdaaW.PrintMore
set_option linter.unusedVariables false
set_option linter.unusedSimpArgs false
theorem fresh_all : ∀ (l : List S44) (s : List Int), fresh l s = true → ∀ t ∈ l, fileR t = true
  | [], _, _ => fun t h => by cases h
  | a :: l, s, h => by
    have hfr : fresh (a :: l) s = (fileR a && !decide (a.f0 ∈ s) && fresh l (s ++ [a.f0])) := rfl
    rw [hfr] at h
    simp only [Bool.and_eq_true] at h
    intro t ht
    rcases List.mem_cons.1 ht with rfl | ht
    · exact h.1.1
    · exact fresh_all l _ h.2 t ht
theorem freshL_all : ∀ (ls : List (List S44)) (i : Nat) (s : List Int), freshL ls i s = true → ∀ l ∈ ls, ∀ t ∈ l, fileR t = true
  | [], _, _, _ => fun l h => by cases h
  | a :: ls, i, s, h => by
    have hfl : freshL (a :: ls) i s = (ordF i a && fresh a s && freshL ls (i + 1) (s ++ nums a)) := rfl
    rw [hfl] at h
    simp only [Bool.and_eq_true] at h
    intro l hl
    rcases List.mem_cons.1 hl with rfl | hl
    · exact fresh_all _ _ h.1.2
    · exact freshL_all ls _ _ h.2 l hl
theorem fileR_facts {t : S44} (h : fileR t = true) : 1 ≤ t.f0 ∧ t.f0 ≤ 2147483647 ∧ 1 ≤ t.f1 ∧ t.f1 ≤ 1048576 ∧ 1 ≤ t.f2 ∧ t.f2 ≤ 65536 ∧ 1 ≤ t.f3.size ∧ t.f3.size ≤ 128 ∧ 1 ≤ t.f4.size ∧ t.f4.size ≤ 128 ∧ Op.bytesLess t.f4.toList t.f3.toList = false := by
  have h2 := file_ref t
  rw [h] at h2
  unfold atriumref11_file.f at h2
  obtain ⟨a1, h2⟩ := ite_tt h2
  obtain ⟨a2, h2⟩ := ite_tt h2
  obtain ⟨a3, h2⟩ := ite_tt h2
  obtain ⟨a4, h2⟩ := ite_tt h2
  obtain ⟨a5, h2⟩ := ite_tt h2
  obtain ⟨a6, h2⟩ := ite_tt h2
  obtain ⟨a7, h2⟩ := ite_tt h2
  obtain ⟨a8, h2⟩ := ite_tt h2
  obtain ⟨a9, h2⟩ := ite_tt h2
  obtain ⟨a10, h2⟩ := ite_tt h2
  have h3 := Option.some.inj h2
  refine ⟨a1, a2, a3, a4, a5, a6, by omega, by omega, by omega, by omega, ?_⟩
  cases hb : Op.bytesLess t.f4.toList t.f3.toList
  · rfl
  · rw [hb] at h3; cases h3
theorem okF_file {ls : List (List S44)} (h : okF ls = true) : ∀ l ∈ ls, ∀ t ∈ l, fileR t = true := freshL_all ls 0 [] (okF_facts h).2.1
section
variable {ls : List (List S44)} {o0 o1 o2 o3 o4 o5 o6 : Int}
theorem cond_pos (hm : mayB o0 o1 o2 o3 o4 o5 o6 = true) {n : Nat} (h : condF ls o4 o5 o6 n = true) : 0 < (rd_L3 ls (n : Int)).length ∧ n < ls.length := by
  have h1 : n < ls.length := by
    by_cases hn : n < ls.length
    · exact hn
    · rw [cond_out hm n (by omega)] at h
      cases h
  refine ⟨?_, h1⟩
  obtain ⟨f1, f2, f3, f4, f5⟩ := may_facts hm
  rcases Nat.eq_zero_or_pos (rd_L3 ls (n : Int)).length with h0 | h0
  · exfalso
    have he := List.eq_nil_of_length_eq_zero h0
    rw [rd_lvl] at he
    unfold condF at h
    by_cases hz : n = 0
    · subst hz
      rw [if_pos rfl, show lvl ls 0 = [] from he] at h
      have := of_decide_eq_true h
      simp at this
      omega
    · rw [if_neg hz, he] at h
      have h2 := of_decide_eq_true h
      have h3 := boundI_le f2 f3 f4 f5 (n - 1)
      have h4 : sumW [] = 0 := rfl
      omega
  · exact h0
end
/-- What Next answers: the job, and whether there is one. -/
def nextF (ls : List (List S44)) (o0 o1 o2 o3 o4 o5 o6 : Int) : S33 × Bool :=
  if mayB o0 o1 o2 o3 o4 o5 o6 = true ∧ okF ls = true then (match fullV (condF ls o4 o5 o6) with | some n => (jobF ls n, true) | none => (z33, false)) else (z33, false)
theorem nextF_len (ls : List (List S44)) (o0 o1 o2 o3 o4 o5 o6 : Int) : (nextF ls o0 o1 o2 o3 o4 o5 o6).1.f1.length ≤ 4096 := by
  unfold nextF
  by_cases h : mayB o0 o1 o2 o3 o4 o5 o6 = true ∧ okF ls = true
  · rw [if_pos h]
    cases hf : fullV (condF ls o4 o5 o6) with
    | none => exact Nat.zero_le _
    | some n =>
      show (ats n (chosenF ls n) ++ ats ((n : Int) + 1) (metF ls n)).length ≤ 4096
      rw [List.length_append, ats_len, ats_len]
      have h1 : (chosenF ls n).length ≤ 1024 := by
        unfold chosenF
        split
        · exact okF_lvl h.2 _
        · simp
      have h2 : (metF ls n).length ≤ 1024 := Nat.le_trans (meet_len _ _ _) (okF_lvl h.2 _)
      omega
  · rw [if_neg h]
    exact Nat.zero_le _
theorem Kd_R_z (W : World) (b : Nat) : Kd.R k63 63 W b (fun _ => True) (.slice none 0 0) [] := Kd.R_nil _ _ _ _ _
/-- pick.Next. -/
theorem pnext (A : Option Addr) (c : Nat) (ls : List (List S44)) (o0 o1 o2 o3 o4 o5 o6 : Int) (w : World) (hC : Kd.C (Kd.slice 44 k44) w A ls.length ls) (hc : ls.length ≤ c) :
    Calls Try.prog 9 #[.agg #[.slice A ls.length c], .agg #[.int .i64 o0, .int .i64 o1, .int .i64 o2, .int .i64 o3, .int .i64 o4, .int .i64 o5, .int .i64 o6]] w fun e w' => ∃ v, e = .returned (.tuple #[.agg #[.int .i64 (nextF ls o0 o1 o2 o3 o4 o5 o6).1.f0, v, .bool (nextF ls o0 o1 o2 o3 o4 o5 o6).1.f2], .bool (nextF ls o0 o1 o2 o3 o4 o5 o6).2]) ∧ Kd.R k63 63 w' w.heap.size (fun _ => True) v (nextF ls o0 o1 o2 o3 o4 o5 o6).1.f1 ∧ Below w.heap.size w w' := by
  unfold nextF
  by_cases hm : mayB o0 o1 o2 o3 o4 o5 o6 = true
  · have h1 := may_val o0 o1 o2 o3 o4 o5 o6
    rw [hm] at h1
    by_cases hr : okF ls = true
    · have h2 := right_val ls
      rw [hr] at h2
      rw [if_pos ⟨hm, hr⟩]
      obtain ⟨k, hk⟩ := (pfull_ev hm (fun n => Nat.le_trans (okF_lvl hr n) (by decide))).rounds
      cases hf : fullV (condF ls o4 o5 o6) with
      | none =>
        have : fullP (condF ls o4 o5 o6) = (0, false) := by unfold fullP; rw [hf]
        rw [this] at hk
        refine (next_no3 k 0 A c ls o0 o1 o2 o3 o4 o5 o6 w hC hc h1 h2 hk).mono ?_
        rintro e w' ⟨rfl, hb⟩
        exact ⟨_, rfl, Kd_R_z _ _, hb⟩
      | some n =>
        have : fullP (condF ls o4 o5 o6) = ((n : Int), true) := by unfold fullP; rw [hf]
        rw [this] at hk
        obtain ⟨hn5, hcn⟩ := fullV_some hf
        obtain ⟨hp, _⟩ := cond_pos hm hcn
        refine (next_yes k n A c ls o0 o1 o2 o3 o4 o5 o6 w hC hc h1 h2 hk hn5 (by rw [← rd_lvl]; exact hp) (okF_lvl hr)).mono ?_
        rintro e w' ⟨v, rfl, hR, hb⟩
        exact ⟨v, rfl, hR, hb⟩
    · have h2 := right_val ls
      rw [Bool.eq_false_iff.mpr hr] at h2
      rw [if_neg (fun h => hr h.2)]
      refine (next_no2 A c ls o0 o1 o2 o3 o4 o5 o6 w hC hc h1 h2).mono ?_
      rintro e w' ⟨rfl, hb⟩
      exact ⟨_, rfl, Kd_R_z _ _, hb⟩
  · have h1 := may_val o0 o1 o2 o3 o4 o5 o6
    rw [Bool.eq_false_iff.mpr hm] at h1
    rw [if_neg (fun h => hm h.1)]
    refine (next_no1 A c ls o0 o1 o2 o3 o4 o5 o6 w h1).mono ?_
    rintro e w' ⟨rfl, hb⟩
    exact ⟨_, rfl, Kd_R_z _ _, hb⟩
/-- pick.Rests and the reference's. -/
def restsF (ls : List (List S44)) (o0 o1 o2 o3 o4 o5 o6 : Int) : Bool := mayB o0 o1 o2 o3 o4 o5 o6 && okF ls && (fullV (condF ls o4 o5 o6)).isNone
theorem prests_ev (ls : List (List S44)) (o0 o1 o2 o3 o4 o5 o6 : Int) : Ev (fun k => pick_Rests.f k ls o0 o1 o2 o3 o4 o5 o6) (restsF ls o0 o1 o2 o3 o4 o5 o6) := by
  unfold pick_Rests.f restsF
  rw [may_val, right_val]
  simp only [Option.bind_some]
  by_cases hm : mayB o0 o1 o2 o3 o4 o5 o6 = true
  · by_cases hr : okF ls = true
    · simp only [if_pos hm, if_pos hr]
      refine Ev.bind (pfull_ev hm (fun n => Nat.le_trans (okF_lvl hr n) (by decide))) ?_
      rw [hm, hr]
      unfold fullP
      cases fullV (condF ls o4 o5 o6) <;> exact Ev.now _
    · simp only [if_pos hm, if_neg hr]
      rw [Bool.eq_false_iff.mpr hr]
      simp only [Bool.and_false, Bool.false_and]
      exact Ev.now _
  · simp only [if_neg hm]
    rw [Bool.eq_false_iff.mpr hm]
    simp only [Bool.false_and]
    exact Ev.now _
end Go.Proofs.Ytdibolblgchpdaa.P
