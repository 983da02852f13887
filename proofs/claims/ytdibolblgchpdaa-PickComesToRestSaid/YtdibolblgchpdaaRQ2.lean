/- The reference's Check of a version is the program's. -/
import Derived.Test.YtdibolblgchpdaaRQ1
import Derived.Test.YtdibolblgchpdaaRH8
import Derived.Test.YtdibolblgchpdaaRPSr
import Derived.Test.YtdibolblgchpdaaRPSq
namespace Go.Proofs.Ytdibolblgchpdaa.P
open Go.RowKit Go.Proofs.YtdibolblgchpdaaW.PrintWords Go.Proofs.YtdibolblgchpdaaW.PrintLast Go.Proofs.YtdibolblgchpdaaW.PrintMore
set_option linter.unusedVariables false
set_option linter.unusedSimpArgs false
/-! ### The program's Check -/
theorem foldT_true (l : List S44) : ∀ s : List Int, (l.foldl stT (true, s)).1 = true := by
  induction l with
  | nil => intro s; rfl
  | cons t l ih =>
    intro s
    rw [List.foldl_cons]
    exact ih _
theorem foldT (l : List S44) : ∀ s : List Int, ((l.foldl stT (false, s)).1 = !fresh l s) ∧ (fresh l s = true → (l.foldl stT (false, s)).2 = s ++ nums l) := by
  induction l with
  | nil => intro s; exact ⟨rfl, fun _ => by simp [nums]⟩
  | cons t l ih =>
    intro s
    rw [List.foldl_cons]
    have hst : stT (false, s) t = ((false || !fileR t || decide (t.f0 ∈ s) || decide ((2147483648 : Int) ≤ t.f0)), if t.f0 ∈ s then s else s ++ [t.f0]) := rfl
    have hfr : fresh (t :: l) s = (fileR t && !decide (t.f0 ∈ s) && fresh l (s ++ [t.f0])) := rfl
    rw [hst, hfr]
    by_cases hf : fileR t = true
    · have hlt := fileR_lt t hf
      by_cases hm : t.f0 ∈ s
      · rw [hf, decide_eq_true hm, if_pos hm]
        refine ⟨?_, fun h => (by simp at h)⟩
        rw [show (false || !true || true || decide ((2147483648 : Int) ≤ t.f0)) = true from rfl, foldT_true]
        rfl
      · rw [hf, decide_eq_false hm, if_neg hm, decide_eq_false (by omega)]
        have h := ih (s ++ [t.f0])
        refine ⟨?_, fun h1 => ?_⟩
        · rw [show (false || !true || false || false) = false from rfl, h.1]
          rfl
        · rw [show (false || !true || false || false) = false from rfl, h.2 h1, List.append_assoc]
          rfl
    · rw [Bool.eq_false_iff.mpr hf]
      refine ⟨?_, fun h => (by simp at h)⟩
      rw [show (false || !false || decide (t.f0 ∈ s) || decide ((2147483648 : Int) ≤ t.f0)) = true from rfl, foldT_true]
      rfl
def freshL : List (List S44) → Nat → List Int → Bool
  | [], _, _ => true
  | l :: ls, i, seen => ordF i l && fresh l seen && freshL ls (i + 1) (seen ++ nums l)
theorem stL_true (s : List Int) (i : Nat) (l : List S44) : (stL (true, s) i l).1 = true := by
  unfold stL
  exact foldT_true l s
theorem stTo_inv (ls : List (List S44)) (hw : wrong0 ls = false) : ∀ j, j ≤ ls.length → ((stTo ls j).1 = false → (stTo ls j).2 = nums (ls.take j).flatten) ∧ ((stTo ls j).1 || !freshL (ls.drop j) j (stTo ls j).2) = !freshL ls 0 [] := by
  intro j
  induction j with
  | zero =>
    intro _
    refine ⟨fun _ => rfl, ?_⟩
    rw [show stTo ls 0 = (wrong0 ls, []) from rfl, hw]
    rfl
  | succ j ih =>
    intro hj
    obtain ⟨h1, h2⟩ := ih (by omega)
    have hlt : j < ls.length := by omega
    have hg : ls.getD j [] = ls[j] := by simp [hlt]
    have hs : stTo ls (j + 1) = stL (stTo ls j) j ls[j] := by rw [← hg]; rfl
    rw [List.drop_eq_getElem_cons hlt] at h2
    have hfl : freshL (ls[j] :: ls.drop (j + 1)) j (stTo ls j).2 = (ordF j ls[j] && fresh ls[j] (stTo ls j).2 && freshL (ls.drop (j + 1)) (j + 1) ((stTo ls j).2 ++ nums ls[j])) := rfl
    rw [hfl] at h2
    rw [hs]
    obtain ⟨st, hst⟩ : ∃ st, stTo ls j = st := ⟨_, rfl⟩
    rw [hst] at h1 h2 ⊢
    obtain ⟨b, s⟩ := st
    cases b with
    | true =>
      refine ⟨fun h => (by rw [stL_true] at h; cases h), ?_⟩
      rw [stL_true, ← h2]
      rfl
    | false =>
      have h1' := h1 rfl
      dsimp only at h1' h2 ⊢
      unfold stL
      dsimp only
      by_cases ho : ordF j ls[j] = true
      · rw [ho] at h2 ⊢
        have hf := foldT ls[j] s
        rw [show (false || !true) = false from rfl]
        by_cases hfr : fresh ls[j] s = true
        · rw [hf.2 hfr, hf.1]
          refine ⟨fun _ => ?_, ?_⟩
          · rw [h1', List.take_add_one, List.getElem?_eq_getElem hlt, List.flatten_append]
            unfold nums
            rw [List.map_append, show (some ls[j]).toList.flatten = ls[j] from by simp]
          · rw [← h2, hfr]
            rfl
        · rw [hf.1, Bool.eq_false_iff.mpr hfr]
          refine ⟨fun h => (by simp at h), ?_⟩
          rw [← h2, Bool.eq_false_iff.mpr hfr]
          rfl
      · rw [Bool.eq_false_iff.mpr ho] at h2 ⊢
        rw [show (false || !false) = true from rfl, foldT_true]
        refine ⟨fun h => (by cases h), ?_⟩
        rw [← h2]
        rfl
theorem allOk_iff (ls : List (List S44)) : ∀ (i : Nat) (seen : List Int), seen.length ≤ 1024 → allOk ls i seen = (freshL ls i seen && decide (seen.length + ls.flatten.length ≤ 1024)) := by
  induction ls with
  | nil =>
    intro i seen hs
    simp [allOk, freshL, hs]
  | cons l ls ih =>
    intro i seen hs
    have e1 : allOk (l :: ls) i seen = (ordF i l && fresh l seen && decide (seen.length + l.length ≤ 1024) && allOk ls (i + 1) (seen ++ nums l)) := rfl
    have e2 : freshL (l :: ls) i seen = (ordF i l && fresh l seen && freshL ls (i + 1) (seen ++ nums l)) := rfl
    have e3 : (l :: ls).flatten.length = l.length + ls.flatten.length := by simp
    have e4 : (seen ++ nums l).length = seen.length + l.length := by simp [nums]
    rw [e1, e2, e3]
    by_cases hc : seen.length + l.length ≤ 1024
    · rw [ih (i + 1) (seen ++ nums l) (by omega), e4, decide_eq_true hc, Nat.add_assoc]
      generalize (ordF i l && fresh l seen) = b1, freshL ls (i + 1) (seen ++ nums l) = b2
      cases b1 <;> cases b2 <;> simp
    · rw [decide_eq_false hc, decide_eq_false (by omega)]
      simp
theorem checkF_ok (ls : List (List S44)) : checkF ls = if okF ls = true then 0 else 110 := by
  unfold checkF okF
  by_cases hw : wrong0 ls = true
  · rw [hw]
    have h : ∀ j, (stTo ls j).1 = true := by
      intro j
      induction j with
      | zero => exact hw
      | succ j ih =>
        have hs : stTo ls (j + 1) = stL (stTo ls j) j (ls.getD j []) := rfl
        rw [hs, show stTo ls j = (true, (stTo ls j).2) from by rw [← ih]]
        exact stL_true _ _ _
    rw [h]
    rfl
  · have hw := Bool.eq_false_iff.mpr hw
    obtain ⟨h1, h2⟩ := stTo_inv ls hw ls.length (Nat.le_refl _)
    rw [List.drop_length, show freshL [] ls.length (stTo ls ls.length).2 = true from rfl] at h2
    rw [List.take_length] at h1
    have h3 : (stTo ls ls.length).1 = !freshL ls 0 [] := by
      rw [← h2]
      cases (stTo ls ls.length).1 <;> rfl
    rw [hw, allOk_iff ls 0 [] (by simp)]
    by_cases hf : freshL ls 0 [] = true
    · rw [hf] at h3
      have h4 := h1 h3
      rw [h3, h4, hf]
      have hn : (nums ls.flatten).length = ls.flatten.length := List.length_map _
      rw [hn]
      by_cases hc : ls.flatten.length ≤ 1024
      · rw [decide_eq_false (by omega), decide_eq_true (by simpa using hc)]
        rfl
      · rw [decide_eq_true (by omega), decide_eq_false (by simpa using hc)]
        rfl
    · rw [h3, Bool.eq_false_iff.mpr hf]
      rfl
theorem right_val (ls : List (List S44)) : pick_right.f ls = some (okF ls) := by
  unfold pick_right.f manifest_Check.f
  rw [if_pos ⟨rfl, rfl, rfl⟩, checkF_ok, Option.bind_some]
  cases okF ls <;> rfl
theorem rright_val (ls : List (List S44)) (hLl : ∀ l ∈ ls, l.length ≤ 2513169434916) : atriumref12_Right.f ls = some (okF ls) := by
  unfold atriumref12_Right.f atriumref11_Check.f
  rw [if_pos ⟨rfl, rfl, rfl, hLl⟩, Option.bind_some]
  cases okF ls <;> rfl
end Go.Proofs.Ytdibolblgchpdaa.P
