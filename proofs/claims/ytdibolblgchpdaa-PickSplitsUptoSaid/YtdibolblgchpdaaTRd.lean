/- What is read as data of a type reads as a kind of the print's words; strings and slices within the reach. (wip/tpl/Rd.lean, the seat's name filled in) -/
import Derived.Test.YtdibolblgchpdaaWWords
import Derived.ChangeArms
import Derived.ChangeSame
import Derived.ChangeSlices
import Derived.WideShapes
import Derived.SizedLaws
import Derived.Below
import Derived.OpenShut
namespace Go.Proofs.Ytdibolblgchpdaa.Rd
open Go.RowKit Go.WideShapes Go.Proofs.YtdibolblgchpdaaW.PrintWords
set_option linter.unusedVariables false
set_option linter.unusedSimpArgs false
section
variable {P : Program} {T : TypeId}
theorem cells_at {w : World} {base : Nat} {a : Addr} {n : Nat} {cs : List Value} (h : w.cells? base a n = some cs) : cs.length = n ∧ ∀ i u, cs[i]? = some u → w.cell? (a.add i) = some u := by
  obtain ⟨_, h2, h3⟩ := World.cells?_some h
  refine ⟨h2, fun i u hu => ?_⟩
  have hi : i < cs.length := (List.getElem?_eq_some_iff.1 hu).1
  rw [h3 i (by omega)]
  exact hu
theorem add_add (a : Addr) (i j : Nat) : (a.add i).add j = a.add (i + j) := by
  unfold Addr.add
  by_cases h1 : i = 0 <;> by_cases h2 : j = 0 <;> simp [h1, h2, Nat.add_assoc]
/-- A list of what each element reads as. -/
theorem choose_list {α β : Type} {R : β → α → Prop} : ∀ {l : List β}, (∀ b ∈ l, ∃ a, R b a) → ∃ xs : List α, xs.length = l.length ∧ ∀ (i : Nat) b, l[i]? = some b → ∃ a, xs[i]? = some a ∧ R b a
  | [], _ => ⟨[], rfl, fun i b h => by simp at h⟩
  | b :: l, h => by
    obtain ⟨a, ha⟩ := h b (by simp)
    obtain ⟨xs, hl, hx⟩ := choose_list (l := l) (fun b hb => h b (by simp [hb]))
    refine ⟨a :: xs, by simp [hl], fun i b' hb' => ?_⟩
    cases i with
    | zero => simp at hb'; subst hb'; exact ⟨a, rfl, ha⟩
    | succ i => simp at hb'; obtain ⟨a', h1, h2⟩ := hx i b' hb'; exact ⟨a', by simpa using h1, h2⟩
end
end Go.Proofs.Ytdibolblgchpdaa.Rd
