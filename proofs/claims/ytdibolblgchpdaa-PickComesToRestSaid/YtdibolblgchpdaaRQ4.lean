/- Work, copied, the comparisons; what a right version bears; the chosen tables. -/
import Derived.Test.YtdibolblgchpdaaRQ3
import Derived.Test.YtdibolblgchpdaaRPL0b
import Derived.Test.YtdibolblgchpdaaRPL0c
import Derived.Test.YtdibolblgchpdaaRP0
import Derived.Test.YtdibolblgchpdaaRPEq
import Derived.Test.YtdibolblgchpdaaRPL1a
import Derived.Test.YtdibolblgchpdaaRPSr2
namespace Go.Proofs.Ytdibolblgchpdaa.P
open Go.RowKit Go.Proofs.YtdibolblgchpdaaW.PrintWords Go.Proofs.YtdibolblgchpdaaW.PrintLast Go.Proofs.YtdibolblgchpdaaW.PrintMore
set_option linter.unusedVariables false
set_option linter.unusedSimpArgs false
/-! ### What a right version bears -/
theorem okF_facts {ls : List (List S44)} (h : okF ls = true) : wrong0 ls = false ∧ freshL ls 0 [] = true ∧ ls.flatten.length ≤ 1024 := by
  unfold okF at h
  rw [allOk_iff ls 0 [] (by simp)] at h
  simp only [Bool.and_eq_true, Bool.not_eq_true', decide_eq_true_eq, List.length_nil, Nat.zero_add] at h
  exact ⟨h.1, h.2.1, h.2.2⟩
theorem okF_len {ls : List (List S44)} (h : okF ls = true) : ls.length ≤ 7 := by
  have h1 := (okF_facts h).1
  rcases wrong_cases ls with ⟨h7, h2⟩ | ⟨h7, h2⟩ | ⟨h7, h3, h4, h2⟩ | ⟨h7, h3, h4, h2⟩
  · rw [h2] at h1; cases h1
  · omega
  · omega
  · omega
theorem flat_mem_le (ls : List (List S44)) (l : List S44) (h : l ∈ ls) : l.length ≤ ls.flatten.length := by
  induction ls with
  | nil => cases h
  | cons a ls ih =>
    rw [List.flatten_cons, List.length_append]
    rcases List.mem_cons.1 h with rfl | h
    · omega
    · have := ih h; omega
theorem okF_rd {ls : List (List S44)} (h : okF ls = true) (n : Int) : (rd_L3 ls n).length ≤ 1024 := by
  rcases rd_mem ls n with e | e
  · rw [e]; simp
  · exact Nat.le_trans (flat_mem_le ls _ e) (okF_facts h).2.2
theorem lvl_cases (ls : List (List S44)) (n : Int) : lvl ls n = [] ∨ lvl ls n = rd_L3 ls n := by
  unfold lvl rd_L3
  by_cases h : n < 0
  · rw [if_pos h]; exact .inl rfl
  · rw [if_neg h]; exact .inr rfl
theorem okF_lvl {ls : List (List S44)} (h : okF ls = true) (n : Int) : (lvl ls n).length ≤ 1024 := by
  rcases lvl_cases ls n with e | e
  · rw [e]; simp
  · rw [e]; exact okF_rd h n
/-! ### Work -/
def workL (lv : Int) (l : List S44) (a : Int) : Int := l.foldl (fun a t => wrap64 (a + wrap64 (t.f2 * wrap64 (6 - lv)))) a
def workV : List (List S44) → Nat → Int → Int
  | [], _, a => a
  | l :: ls, i, a => workV ls (i + 1) (workL (i : Int) l a)
theorem work_same (ls : List (List S44)) : ∀ k, (∀ a x13 x14, pick_Work.l0 k a ls x13 x14 = atriumref12_Work.l0 k a ls x13 x14) ∧ (∀ a x4 x13 x14 l x20 x21, pick_Work.l1 k a x4 ls x13 x14 l x20 x21 = atriumref12_Work.l1 k a x4 ls x13 x14 l x20 x21)
  | 0 => ⟨fun _ _ _ => rfl, fun _ _ _ _ _ _ _ => rfl⟩
  | k + 1 => by
    obtain ⟨i0, i1⟩ := work_same ls k
    refine ⟨fun a x13 x14 => ?_, fun a x4 x13 x14 l x20 x21 => ?_⟩
    · rw [pick_Work.l0, atriumref12_Work.l0, i1]
    · rw [pick_Work.l1, atriumref12_Work.l1, i1, i0]
theorem rwork_l1 (ls : List (List S44)) (lv : Nat) (hlv : lv ≤ 4611686018427387904) (l : List S44) (hl : l.length ≤ 4611686018427387904) (r : Int → Int) (hn : ∀ a, Ev (fun k => atriumref12_Work.l0 k a ls (ls.length : Int) ((lv + 1 : Nat) : Int)) (r a)) (d : Nat) : ∀ (i : Nat) (a : Int), i + d = l.length →
    Ev (fun k => atriumref12_Work.l1 k a (lv : Int) ls (ls.length : Int) (lv : Int) l (l.length : Int) (i : Int)) (r (workL (lv : Int) (l.drop i) a)) := by
  induction d with
  | zero =>
    intro i a he
    rw [List.drop_eq_nil_of_le (by omega)]
    refine Ev.step (fun k => ?_) (hn a)
    rw [atriumref12_Work.l1, if_neg (by omega), wr1 lv hlv]
  | succ d ih =>
    intro i a he
    have hi : i < l.length := by omega
    rw [List.drop_eq_getElem_cons hi]
    refine Ev.step (fun k => ?_) (ih (i + 1) (wrap64 (a + wrap64 (l[i].f2 * wrap64 (6 - (lv : Int))))) (by omega))
    rw [atriumref12_Work.l1, if_pos (by omega), if_pos (by omega), if_pos (by omega), get44 l i hi, wr1 i (by omega)]
theorem rwork_l0 (ls : List (List S44)) (hls : ls.length ≤ 7) (hl : ∀ l ∈ ls, l.length ≤ 4611686018427387904) (d : Nat) : ∀ (i : Nat) (a : Int), i + d = ls.length →
    Ev (fun k => atriumref12_Work.l0 k a ls (ls.length : Int) (i : Int)) (workV (ls.drop i) i a) := by
  induction d with
  | zero =>
    intro i a he
    rw [List.drop_eq_nil_of_le (by omega)]
    refine Ev.step (f := fun _ => some a) (fun k => ?_) (Ev.now _)
    rw [atriumref12_Work.l0, if_neg (by omega)]
  | succ d ih =>
    intro i a he
    have hi : i < ls.length := by omega
    rw [List.drop_eq_getElem_cons hi]
    have hL : rd_L3 ls (i : Int) = ls[i] := by simp only [rd_L3, Int.toNat_natCast]; simp [hi]
    have h1 := rwork_l1 ls i (by omega) ls[i] (hl _ (List.getElem_mem hi)) (fun a => workV (ls.drop (i + 1)) (i + 1) a) (fun a => ih (i + 1) a (by omega)) ls[i].length 0 a (by omega)
    refine Ev.step (fun k => ?_) h1
    rw [atriumref12_Work.l0, if_pos (by omega), if_pos (by omega), if_pos (by omega), hL]
    rfl
def workF (ls : List (List S44)) : Int := if okF ls = true then workV ls 0 0 else 0
theorem rwork_ev (ls : List (List S44)) (hl3 : ∀ l ∈ ls, l.length ≤ 2513169434916) : Ev (fun k => atriumref12_Work.f k ls) (workF ls) := by
  unfold atriumref12_Work.f workF
  have hl : ∀ l ∈ ls, l.length ≤ 4611686018427387904 := fun l h => Nat.le_trans (hl3 l h) (by decide)
  rw [rright_val ls hl3]
  simp only [Option.bind_some]
  by_cases h : okF ls = true
  · simp only [if_pos h]
    exact rwork_l0 ls (okF_len h) hl ls.length 0 0 (by omega)
  · simp only [if_neg h]
    exact Ev.now _
theorem pwork_ev (ls : List (List S44)) (hl : ∀ l ∈ ls, l.length ≤ 4611686018427387904) : Ev (fun k => pick_Work.f k ls) (workF ls) := by
  unfold pick_Work.f workF
  rw [right_val]
  simp only [Option.bind_some]
  by_cases h : okF ls = true
  · simp only [if_pos h]
    refine Ev.congr (fun k => (work_same ls k).1 _ _ _) ?_
    exact rwork_l0 ls (okF_len h) hl ls.length 0 0 (by omega)
  · simp only [if_neg h]
    exact Ev.now _
theorem sameJ_ev (n : Int) (l : List S63) (b : Bool) (hl : l.length ≤ 4611686018427387904) : Ev (fun k => atriumlaw12_sameJob.f k n l b n l b) true := by
  unfold atriumlaw12_sameJob.f
  have h : ∀ d i : Nat, i + d = l.length → Ev (fun k => atriumlaw12_sameJob.l0 k (l.length : Int) (i : Int) n l b n l b) true := by
    intro d
    induction d with
    | zero =>
      intro i he
      refine Ev.step (f := fun _ => some true) (fun k => ?_) (Ev.now _)
      rw [atriumlaw12_sameJob.l0, if_neg (by omega)]
    | succ d ih =>
      intro i he
      refine Ev.step (fun k => ?_) (ih (i + 1) (by omega))
      rw [atriumlaw12_sameJob.l0, if_pos (by omega), if_pos (by omega), if_pos (by omega), if_pos (by omega), if_neg (by simp), wr1 i (by omega)]
  have hb : (b != b) = false := by cases b <;> rfl
  have hz : ((l.length : Int) != (l.length : Int)) = false := by simp
  simp only [if_true, hb, hz, Bool.false_eq_true, if_false]
  refine Ev.step (fun k => ?_) (h l.length 0 (by omega))
  rw [atriumlaw12_sameJob.j0, if_neg (by decide)]
  rfl
end Go.Proofs.Ytdibolblgchpdaa.P
