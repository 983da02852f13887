/- Plain mathematics: the merge by insertion; the contract of merge.Merge. -/
import Derived.Test.YtdpnhnfhobmopaaH1e
namespace Go.Proofs.Ytdpnhnfhobmopaa.P
open Go.RowKit Go.Proofs.YtdpnhnfhobmopaaW.PrintWords Go.Proofs.YtdpnhnfhobmopaaW.PrintLast Go.Proofs.YtdpnhnfhobmopaaW.PrintMore
set_option linter.unusedVariables false
set_option linter.unusedSimpArgs false

def withF : List S24 → S24 → List S24
  | [], c => [c]
  | x :: l, c => if cmpOf x c < 0 then x :: withF l c else if cmpOf x c = 0 then x :: l else c :: x :: l
theorem withF_mem (c x : S24) : ∀ (l : List S24), Strict l → (x ∈ withF l c ↔ x ∈ l ∨ (x = c ∧ ∀ z ∈ l, cmpOf z c ≠ 0))
  | [], _ => by simp [withF]
  | y :: l, h => by
    have ih := withF_mem c x l (List.pairwise_cons.1 h).2
    have hh := (List.pairwise_cons.1 h).1
    unfold withF
    split
    · rename_i h1
      rw [List.mem_cons, ih, List.mem_cons]
      constructor
      · rintro (rfl | h2 | ⟨rfl, h2⟩)
        · exact .inl (.inl rfl)
        · exact .inl (.inr h2)
        · refine .inr ⟨rfl, fun z hz => ?_⟩
          rcases List.mem_cons.1 hz with rfl | hz
          · omega
          · exact h2 z hz
      · rintro ((rfl | h2) | ⟨rfl, h2⟩)
        · exact .inl rfl
        · exact .inr (.inl h2)
        · exact .inr (.inr ⟨rfl, fun z hz => h2 z (List.mem_cons_of_mem _ hz)⟩)
    · rename_i h1
      split
      · rename_i h2
        constructor
        · exact fun h3 => .inl h3
        · rintro (h3 | ⟨rfl, h3⟩)
          · exact h3
          · exact absurd h2 (h3 y (by simp))
      · rename_i h2
        rw [List.mem_cons]
        constructor
        · rintro (rfl | h3)
          · refine .inr ⟨rfl, fun z hz => ?_⟩
            rcases List.mem_cons.1 hz with rfl | hz
            · exact h2
            · have h4 := cmp_lt_trans' (a := x) (b := y) (c := z) (by have := cmp_swap y x; omega) (hh z hz)
              have := cmp_swap x z
              omega
          · exact .inl h3
        · rintro (h3 | ⟨rfl, _⟩)
          · exact .inr h3
          · exact .inl rfl
theorem withF_strict (c : S24) : ∀ (l : List S24), Strict l → Strict (withF l c)
  | [], _ => List.pairwise_singleton _ _
  | y :: l, h => by
    have ih := withF_strict c l (List.pairwise_cons.1 h).2
    have hh := (List.pairwise_cons.1 h).1
    unfold withF
    split
    · rename_i h1
      refine List.pairwise_cons.2 ⟨fun z hz => ?_, ih⟩
      rcases (withF_mem c z l (List.pairwise_cons.1 h).2).1 hz with hz | ⟨rfl, _⟩
      · exact hh z hz
      · exact h1
    · split
      · exact h
      · rename_i h1 h2
        refine List.pairwise_cons.2 ⟨fun z hz => ?_, h⟩
        have hcy : cmpOf c y < 0 := by have := cmp_swap y c; omega
        rcases List.mem_cons.1 hz with rfl | hz
        · exact hcy
        · exact cmp_lt_trans hcy (Int.le_of_lt (hh z hz))
def FirstIn (s : List S24) (x : S24) : Prop := ∃ a b, s = a ++ x :: b ∧ ∀ y ∈ a, cmpOf y x ≠ 0
theorem firstIn_nil (x : S24) : ¬ FirstIn [] x := by
  rintro ⟨a, b, h, _⟩
  cases a <;> cases h
theorem firstIn_cons (c : S24) (s : List S24) (x : S24) : FirstIn (c :: s) x ↔ x = c ∨ (cmpOf c x ≠ 0 ∧ FirstIn s x) := by
  constructor
  · rintro ⟨a, b, h, hf⟩
    cases a with
    | nil => injection h with h1 h2; exact .inl h1.symm
    | cons d a =>
      injection h with h1 h2
      subst h1
      exact .inr ⟨hf c (by simp), a, b, h2, fun y hy => hf y (List.mem_cons_of_mem _ hy)⟩
  · rintro (rfl | ⟨h1, a, b, rfl, hf⟩)
    · exact ⟨[], s, rfl, by simp⟩
    · refine ⟨c :: a, b, rfl, fun y hy => ?_⟩
      rcases List.mem_cons.1 hy with rfl | hy
      · exact h1
      · exact hf y hy
theorem firstIn_append (s t : List S24) (x : S24) : FirstIn (s ++ t) x ↔ FirstIn s x ∨ ((∀ y ∈ s, cmpOf y x ≠ 0) ∧ FirstIn t x) := by
  induction s with
  | nil => simp [firstIn_nil]
  | cons c s ih =>
    rw [List.cons_append, firstIn_cons, firstIn_cons, ih]
    constructor
    · rintro (rfl | ⟨h1, h2 | ⟨h2, h3⟩⟩)
      · exact .inl (.inl rfl)
      · exact .inl (.inr ⟨h1, h2⟩)
      · exact .inr ⟨fun y hy => by rcases List.mem_cons.1 hy with rfl | hy; exact h1; exact h2 y hy, h3⟩
    · rintro ((rfl | ⟨h1, h2⟩) | ⟨h2, h3⟩)
      · exact .inl rfl
      · exact .inr ⟨h1, .inl h2⟩
      · exact .inr ⟨h2 c (by simp), .inr ⟨fun y hy => h2 y (List.mem_cons_of_mem _ hy), h3⟩⟩
theorem fold_with (s : List S24) : ∀ (out : List S24), Strict out → Strict (s.foldl withF out) ∧ ∀ x, x ∈ s.foldl withF out ↔ x ∈ out ∨ ((∀ z ∈ out, cmpOf z x ≠ 0) ∧ FirstIn s x) := by
  induction s with
  | nil => intro out h; exact ⟨h, fun x => by simp [firstIn_nil]⟩
  | cons c s ih =>
    intro out h
    obtain ⟨h1, h2⟩ := ih (withF out c) (withF_strict c out h)
    refine ⟨h1, fun x => ?_⟩
    rw [List.foldl_cons, h2, withF_mem c x out h, firstIn_cons]
    constructor
    · rintro ((h3 | ⟨rfl, h3⟩) | ⟨h3, h4⟩)
      · exact .inl h3
      · exact .inr ⟨h3, .inl rfl⟩
      · have h5 : ∀ z ∈ out, cmpOf z x ≠ 0 := fun z hz => h3 z ((withF_mem c z out h).2 (.inl hz))
        by_cases hc : ∀ z ∈ out, cmpOf z c ≠ 0
        · exact .inr ⟨h5, .inr ⟨h3 c ((withF_mem c c out h).2 (.inr ⟨rfl, hc⟩)), h4⟩⟩
        · refine .inr ⟨h5, .inr ⟨fun hcx => hc (fun z hz hzc => h5 z hz ?_), h4⟩⟩
          have a1 := cmp_trans (show cmpOf z c ≤ 0 by omega) (show cmpOf c x ≤ 0 by omega)
          have a2 := cmp_trans (show cmpOf x c ≤ 0 by have := cmp_swap c x; omega) (show cmpOf c z ≤ 0 by have := cmp_swap z c; omega)
          have := cmp_swap z x
          omega
    · rintro (h3 | ⟨h3, rfl | ⟨h4, h5⟩⟩)
      · exact .inl (.inl h3)
      · exact .inl (.inr ⟨rfl, h3⟩)
      · refine .inr ⟨fun z hz => ?_, h5⟩
        rcases (withF_mem c z out h).1 hz with hz | ⟨rfl, _⟩
        · exact h3 z hz
        · exact h4
theorem firstIn_strict {l : List S24} (h : Strict l) (x : S24) : FirstIn l x ↔ x ∈ l := by
  constructor
  · rintro ⟨a, b, rfl, _⟩; simp
  · intro hx
    obtain ⟨a, b, rfl⟩ := List.append_of_mem hx
    exact ⟨a, b, rfl, fun y hy => by have := (strict_app h).2.2 y hy x (by simp); omega⟩
theorem firstIn_flatten : ∀ (ls : List (List S24)), (∀ l ∈ ls, Strict l) → ∀ x, FirstIn ls.flatten x ↔ ∃ i, i < ls.length ∧ x ∈ ls.getD i [] ∧ First ls i x
  | [], _, x => by
    constructor
    · intro h; exact absurd h (firstIn_nil x)
    · rintro ⟨i, hi, _⟩; simp at hi
  | l :: ls, h, x => by
    have ih := firstIn_flatten ls (fun l hl => h l (List.mem_cons_of_mem _ hl)) x
    rw [List.flatten_cons, firstIn_append, firstIn_strict (h l (by simp)), ih]
    constructor
    · rintro (hx | ⟨h1, i, hi, hx, hf⟩)
      · exact ⟨0, by simp, hx, fun j hj => absurd hj (Nat.not_lt_zero _)⟩
      · refine ⟨i + 1, by simpa using hi, hx, fun j hj y hy => ?_⟩
        cases j with
        | zero => exact h1 y hy
        | succ j => exact hf j (by omega) y hy
    · rintro ⟨i, hi, hx, hf⟩
      cases i with
      | zero => exact .inl hx
      | succ i => exact .inr ⟨fun y hy => hf 0 (by omega) y hy, i, by simpa using hi, hx, fun j hj y hy => hf (j + 1) (by omega) y hy⟩
theorem fold_lists (ls : List (List S24)) : ∀ out, ls.foldl (fun out l => l.foldl withF out) out = ls.flatten.foldl withF out := by
  induction ls with
  | nil => intro out; rfl
  | cons l ls ih => intro out; rw [List.foldl_cons, ih, List.flatten_cons, List.foldl_append]
def mergeL (ls : List (List S24)) : List S24 := ls.foldl (fun out l => l.foldl withF out) []
theorem mergeL_is (ls : List (List S24)) (h : ∀ l ∈ ls, Strict l) : IsMerge ls (mergeL ls) := by
  unfold mergeL
  rw [fold_lists]
  have h1 := fold_with ls.flatten [] List.Pairwise.nil
  refine ⟨h1.1, fun x => ?_⟩
  rw [h1.2, ← firstIn_flatten ls h]
  simp
def sortedF : List S24 → Bool
  | a :: b :: l => decide (cmpOf a b < 0) && sortedF (b :: l)
  | _ => true
theorem sortedF_iff : ∀ l : List S24, sortedF l = true ↔ Strict l
  | [] => by simp [sortedF, Strict]
  | [a] => by simp [sortedF, Strict]
  | a :: b :: l => by
    have ih := sortedF_iff (b :: l)
    unfold sortedF
    rw [Bool.and_eq_true, ih, decide_eq_true_iff]
    constructor
    · rintro ⟨h1, h2⟩
      exact List.pairwise_cons.2 ⟨fun z hz => cmp_lt_trans h1 (strict_le h2 z hz), h2⟩
    · intro h
      exact ⟨(List.pairwise_cons.1 h).1 b (by simp), (List.pairwise_cons.1 h).2⟩
def mergeF (ls : List (List S24)) : List S24 := if ls.all sortedF = true then mergeL ls else []
end Go.Proofs.Ytdpnhnfhobmopaa.P
