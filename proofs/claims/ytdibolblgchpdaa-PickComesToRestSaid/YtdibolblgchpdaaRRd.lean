/- What is read as data of a type reads as a kind of the print's words; strings and slices within the reach. (wip/tpl/Rd.lean, the seat's name filled in) -/
import Derived.Test.YtdibolblgchpdaaWWords
import Derived.ChangeArms
import Derived.ChangeSame
import Derived.ChangeSlices
import Derived.WideShapes
import Derived.SizedLaws
import Derived.Below
import Derived.OpenShut
namespace Go.Proofs.Ytdibolblgchpdaa.Rd
open Go.RowKit Go.WideShapes Go.Proofs.YtdibolblgchpdaaW.PrintWords
set_option linter.unusedVariables false
set_option linter.unusedSimpArgs false
/-- What is read as data of type T reads as this kind; what is then known of it. -/
def Rds {α : Type} (P : Program) (T : TypeId) (d : Kd α) (Ok : α → Prop) : Prop :=
  ∀ (H : Type) (enc : TypeId × Value → H) (w : World) (base : Nat) (spare : Nat → Bool) (held : Bool) (fuel : Nat) (cs : List Value) (x : DataW H × List MemPlace),
    DataW.trod enc P w base spare held fuel T cs = some x → (∀ n ∈ x.1.weights P T, n ≤ 140737488351232) → ∃ a, d.K w a cs ∧ Ok a
section
variable {P : Program} {T : TypeId}
theorem weights_all {H : Type} {e : TypeId} : ∀ {l : List (DataW H)} {d : DataW H}, d ∈ l → ∀ n ∈ d.weights P e, n ∈ DataW.weightsAll P e l
  | d0 :: r, d, hd, n, hn => by
    simp only [DataW.weightsAll, List.mem_append]
    rcases List.mem_cons.1 hd with rfl | h
    · exact .inl hn
    · exact .inr (weights_all h n hn)
theorem cells_at {w : World} {base : Nat} {a : Addr} {n : Nat} {cs : List Value} (h : w.cells? base a n = some cs) : cs.length = n ∧ ∀ i u, cs[i]? = some u → w.cell? (a.add i) = some u := by
  obtain ⟨_, h2, h3⟩ := World.cells?_some h
  refine ⟨h2, fun i u hu => ?_⟩
  have hi : i < cs.length := (List.getElem?_eq_some_iff.1 hu).1
  rw [h3 i (by omega)]
  exact hu
theorem add_add (a : Addr) (i j : Nat) : (a.add i).add j = a.add (i + j) := by
  unfold Addr.add
  by_cases h1 : i = 0 <;> by_cases h2 : j = 0 <;> simp [h1, h2, Nat.add_assoc]
/-- A list of what each element reads as. -/
theorem choose_list {α β : Type} {R : β → α → Prop} : ∀ {l : List β}, (∀ b ∈ l, ∃ a, R b a) → ∃ xs : List α, xs.length = l.length ∧ ∀ (i : Nat) b, l[i]? = some b → ∃ a, xs[i]? = some a ∧ R b a
  | [], _ => ⟨[], rfl, fun i b h => by simp at h⟩
  | b :: l, h => by
    obtain ⟨a, ha⟩ := h b (by simp)
    obtain ⟨xs, hl, hx⟩ := choose_list (l := l) (fun b hb => h b (by simp [hb]))
    refine ⟨a :: xs, by simp [hl], fun i b' hb' => ?_⟩
    cases i with
    | zero => simp at hb'; subst hb'; exact ⟨a, rfl, ha⟩
    | succ i => simp at hb'; obtain ⟨a', h1, h2⟩ := hx i b' hb'; exact ⟨a', by simpa using h1, h2⟩
theorem rds_slice {α : Type} {e : TypeId} {d : Kd α} {Ok : α → Prop} (B : Nat) (hu : P.underlying T = some (.slice e)) (hc : P.cellsOf e = d.sz) (hB : P.bytesOf e = B) (hd : Rds P e d Ok) :
    Rds P T (Kd.slice e d) (fun xs => (∀ x ∈ xs, Ok x) ∧ xs.length * B ≤ 140737488351232) := by
  intro H enc w base spare held fuel cs x h hz
  rcases DataW.trod_slice hu h with ⟨rfl, rfl⟩ | ⟨a, len, cap, elems, rest, n, _, rfl, rfl, hb, hl, hm, hlen, hel, hsp, hns⟩
  · exact ⟨[], ⟨none, 0, rfl, by simp, by simp, by simp, fun hp => absurd hp (by simp)⟩, by simp, by simp⟩
  · have hz1 : (elems.length + rest.length) * B ≤ 140737488351232 := by
      have := hz ((elems.length + rest.length) * B) (by simp [DataW.weights, hu, hB])
      exact this
    have each : ∀ i, i < len → ∃ y, elems[i]? = some y ∧ ∃ cs' a', w.cells? base (a.add (i * P.cellsOf e)) (P.cellsOf e) = some cs' ∧ d.K w a' cs' ∧ Ok a' := by
      intro i hi
      have he := hel i hi
      have hs : elems[i]? = some (elems[i]'(by omega)) := List.getElem?_eq_getElem (by omega)
      rw [hs, Option.bind_eq_some_iff] at he
      obtain ⟨cs', h1, h2⟩ := he
      obtain ⟨a', h3, h4⟩ := hd H enc w base spare held n cs' _ h2 (fun m hm' => hz m (by
        simp only [DataW.weights, hu, List.mem_cons, List.mem_append]
        exact .inr (.inl (weights_all (List.mem_map.2 ⟨_, List.getElem_mem (by omega), rfl⟩) m hm'))))
      exact ⟨_, hs, cs', a', h1, h3, h4⟩
    obtain ⟨xs, hxl, hx⟩ := choose_list (l := List.range len) (R := fun i a' => ∃ cs', w.cells? base (a.add (i * P.cellsOf e)) (P.cellsOf e) = some cs' ∧ d.K w a' cs' ∧ Ok a') (fun i hi => by
      obtain ⟨_, _, cs', a', h1, h2, h3⟩ := each i (by simpa using hi)
      exact ⟨a', cs', h1, h2, h3⟩)
    rw [List.length_range] at hxl
    have hat : ∀ i p, xs[i]? = some p → ∃ cs', w.cells? base (a.add (i * P.cellsOf e)) (P.cellsOf e) = some cs' ∧ d.K w p cs' ∧ Ok p := by
      intro i p hp
      have hi : i < len := by have := (List.getElem?_eq_some_iff.1 hp).1; omega
      obtain ⟨p', h1, h2⟩ := hx i i (by simp [hi])
      rw [hp] at h1
      cases h1
      exact h2
    refine ⟨xs, ⟨some a, cap, by rw [hxl], by omega, hxl ▸ rfl, by simp only [maxLen] at hm; omega, fun _ => ⟨a, rfl, fun j p hp => ?_⟩⟩, fun p hp => ?_, ?_⟩
    · obtain ⟨cs', h1, h2, _⟩ := hat j p hp
      obtain ⟨h4, h5⟩ := cells_at h1
      refine ⟨cs', by rw [h4, hc], h2, fun i u hiu => ?_⟩
      rw [← hc, ← add_add]
      exact h5 i u hiu
    · obtain ⟨i, hi, rfl⟩ := List.getElem_of_mem hp
      obtain ⟨_, _, _, h3⟩ := hat i _ (List.getElem?_eq_getElem hi)
      exact h3
    · exact Nat.le_trans (Nat.mul_le_mul_right _ (by omega)) hz1
theorem sized_of {H : Type} {ts : List TypeId} {ds : List (DataW H)} (h : (DataW.weightsEach P ts ds).all (· ≤ reachBytes) = true) {j : Nat} {t : TypeId} {d : DataW H} (ht : ts[j]? = some t) (hd : ds[j]? = some d) : ∀ n ∈ d.weights P t, n ≤ 140737488351232 := fun n hn => by
  have := List.all_eq_true.1 h _ (DataW.weights_mem_each ht hd n hn)
  exact of_decide_eq_true this
end
end Go.Proofs.Ytdibolblgchpdaa.Rd
