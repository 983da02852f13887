/- Lists of cells that are arguments, where the bulk of what is read is bounded. -/
import Derived.Test.YtdibolblgchpdaaTRdV
import Derived.Test.YtdibolblgchpdaaRows
import Derived.Test.YtdibolblgchpdaaTH13
namespace Go.Proofs.Ytdibolblgchpdaa.Rd
open Go.RowKit Go.WideShapes Go.ChangeShapes Go.Joins Go.Deep Go.Proofs.YtdibolblgchpdaaW.PrintWords Go.Proofs.Ytdibolblgchpdaa.P
set_option linter.unusedVariables false
set_option linter.unusedSimpArgs false
theorem four_parts {cs : List Value} {a b c d : Value} (hl : cs.length = 4) (h0 : (cs.drop 0).take 1 = [a]) (h1 : (cs.drop 1).take 1 = [b]) (h2 : (cs.drop 2).take 1 = [c]) (h3 : (cs.drop 3).take 1 = [d]) : cs = [a, b, c, d] := by
  match cs, hl with
  | [w, x, y, z], _ =>
    simp at h0 h1 h2 h3
    simp [h0, h1, h2, h3]
def cellB (x : S59) : Nat := x.f0.size + x.f2.size + 5
def cellsB : List S59 → Nat
  | [] => 0
  | x :: l => cellB x + cellsB l
theorem cellsB_len : ∀ l : List S59, l.length ≤ cellsB l
  | [] => Nat.le_refl _
  | x :: l => by have := cellsB_len l; simp only [cellsB, cellB, List.length_cons]; omega
theorem cellsB_gsize : ∀ l : List S59, gsize l ≤ 4 * cellsB l
  | [] => Nat.le_refl _
  | x :: l => by have := cellsB_gsize l; simp only [cellsB, cellB, gsize]; omega
theorem string_bulk {H : Type} {enc : TypeId × Value → H} {w : World} {base : Nat} {spare : Nat → Bool} {held : Bool} {n : Nat} {cs : List Value} {y : DataW H × List MemPlace} (h : DataW.trod enc Try.prog w base spare held n 9 cs = some y) :
    ∃ s : ByteArray, cs = [.string s] ∧ Rows.uptoBulk y.1 = s.size + 1 := by
  obtain ⟨s, rfl, rfl, _⟩ := DataW.trod_string Try.underlying9 h
  exact ⟨s, rfl, by simp [Rows.uptoBulk]⟩
theorem bulk_T59 {H : Type} {enc : TypeId × Value → H} {w : World} {base : Nat} {spare : Nat → Bool} {held : Bool} {n : Nat} {cs : List Value} {y : DataW H × List MemPlace} (h : DataW.trod enc Try.prog w base spare held n 59 cs = some y) :
    ∃ x : S59, k59.K w x cs ∧ cellB x ≤ Rows.uptoBulk y.1 := by
  obtain ⟨y0, y1, y2, y3, n, hx, hl, h0, h1, h2, h3⟩ := trod_struct4 Try.underlying59 h
  subst hx
  obtain ⟨s0, e0, b0⟩ := string_bulk h0
  obtain ⟨s1, e1, f1, _⟩ := DataW.trod_int Try.underlying57 h1
  obtain ⟨s2, e2, b2⟩ := string_bulk h2
  obtain ⟨s3, e3, f3⟩ := DataW.trod_bool Try.underlying4 h3
  have hl' : cs.length = 4 := hl.trans (by kernel_rfl)
  have c9 : Try.prog.cellsOf 9 = 1 := by kernel_rfl
  have c57 : Try.prog.cellsOf 57 = 1 := by kernel_rfl
  have c4' : Try.prog.cellsOf 4 = 1 := by kernel_rfl
  simp only [c9, c57, c4'] at e0 e1 e2 e3
  have hcs := four_parts hl' e0 e1 e2 e3
  subst hcs
  refine ⟨⟨s0, s1, s2, s3⟩, k59_mk w ⟨s0, s1, s2, s3⟩, ?_⟩
  subst f1
  subst f3
  simp only [Rows.uptoBulk, Rows.uptoBulkAll, b0, b2, cellB]
  omega
theorem bulk_list {H : Type} : ∀ (xs : List S59) (ds : List (DataW H)), xs.length = ds.length → (∀ (i : Nat) x d, xs[i]? = some x → ds[i]? = some d → cellB x ≤ Rows.uptoBulk d) → cellsB xs ≤ Rows.uptoBulkAll ds
  | [], [], _, _ => Nat.le_refl _
  | x :: xs, d :: ds, hl, h => by
    have h1 := h 0 x d rfl rfl
    have h2 := bulk_list xs ds (by simpa using hl) (fun i x d hx hd => h (i + 1) x d (by simpa using hx) (by simpa using hd))
    simp only [cellsB, Rows.uptoBulkAll]
    omega
/-- What is read as a list of cells. -/
theorem bulk_T54 {H : Type} {enc : TypeId × Value → H} {w : World} {base : Nat} {spare : Nat → Bool} {held : Bool} {fuel : Nat} {cs : List Value} {x : DataW H × List MemPlace} (h : DataW.trod enc Try.prog w base spare held fuel 54 cs = some x) :
    ∃ (A : Option Addr) (c : Nat) (xs : List S59), cs = [.slice A xs.length c] ∧ Kd.C k59 w A xs.length xs ∧ xs.length ≤ c ∧ cellsB xs ≤ Rows.uptoBulk x.1 := by
  have hc : Try.prog.cellsOf 59 = k59.sz := by kernel_rfl
  rcases DataW.trod_slice Try.underlying54 h with ⟨rfl, rfl⟩ | ⟨a, len, cap, elems, rest, n, _, rfl, rfl, hb, hl, hm, hlen, hel, hsp, hns⟩
  · exact ⟨none, 0, [], rfl, Kd.C_nil _ _, Nat.le_refl _, by simp [cellsB]⟩
  · have each : ∀ i, i < len → ∃ y, elems[i]? = some y ∧ ∃ cs' a', w.cells? base (a.add (i * Try.prog.cellsOf 59)) (Try.prog.cellsOf 59) = some cs' ∧ k59.K w a' cs' ∧ cellB a' ≤ Rows.uptoBulk y.1 := by
      intro i hi
      have he := hel i hi
      have hs : elems[i]? = some (elems[i]'(by omega)) := List.getElem?_eq_getElem (by omega)
      rw [hs, Option.bind_eq_some_iff] at he
      obtain ⟨cs', h1, h2⟩ := he
      obtain ⟨a', h3, h4⟩ := bulk_T59 h2
      exact ⟨_, hs, cs', a', h1, h3, h4⟩
    obtain ⟨xs, hxl, hx⟩ := choose_list (l := List.range len) (R := fun i a' => ∃ y, elems[i]? = some y ∧ ∃ cs', w.cells? base (a.add (i * Try.prog.cellsOf 59)) (Try.prog.cellsOf 59) = some cs' ∧ k59.K w a' cs' ∧ cellB a' ≤ Rows.uptoBulk y.1) (fun i hi => by
      obtain ⟨y, hy, cs', a', h1, h2, h3⟩ := each i (by simpa using hi)
      exact ⟨a', y, hy, cs', h1, h2, h3⟩)
    rw [List.length_range] at hxl
    have hat : ∀ i p, xs[i]? = some p → ∃ y, elems[i]? = some y ∧ ∃ cs', w.cells? base (a.add (i * Try.prog.cellsOf 59)) (Try.prog.cellsOf 59) = some cs' ∧ k59.K w p cs' ∧ cellB p ≤ Rows.uptoBulk y.1 := by
      intro i p hp
      have hi : i < len := by have := (List.getElem?_eq_some_iff.1 hp).1; omega
      obtain ⟨p', h1, h2⟩ := hx i i (by simp [hi])
      rw [hp] at h1
      cases h1
      exact h2
    refine ⟨some a, cap, xs, by rw [hxl], ⟨hxl ▸ rfl, by simp only [maxLen] at hm; omega, fun _ => ⟨a, rfl, fun j p hp => ?_⟩⟩, by omega, ?_⟩
    · obtain ⟨_, _, cs', h1, h2, _⟩ := hat j p hp
      obtain ⟨h4, h5⟩ := cells_at h1
      refine ⟨cs', by rw [h4, hc], h2, fun i u hiu => ?_⟩
      rw [← hc, ← add_add]
      exact h5 i u hiu
    · have hb := bulk_list xs (elems.map (·.1)) (by rw [List.length_map]; omega) (fun i x d hx hd => by
        obtain ⟨y, hy, _, _, _, hz⟩ := hat i x hx
        rw [List.getElem?_map, hy] at hd
        obtain rfl := Option.some.inj hd
        exact hz)
      simp only [Rows.uptoBulk]
      omega
/-- A list of cells that is an argument. -/
theorem argB_slice {H : Type} {enc : TypeId × Value → H} {w : World} {base : Nat} {spare : Nat → Bool} {held : Bool} {a : Option Addr} {len cap : Nat} {dd : DataW H} {ps : List MemPlace}
    (h : DataW.Trod enc Try.prog w base spare held 54 (.slice a len cap) dd ps) : ∃ xs : List S59, xs.length = len ∧ Kd.C k59 w a xs.length xs ∧ xs.length ≤ cap ∧ cellsB xs ≤ Rows.uptoBulk dd := by
  obtain ⟨fuel, hf⟩ := h
  obtain ⟨A, c, xs, hcs, hC, hlc, hb⟩ := bulk_T54 hf
  simp [Value.cells] at hcs
  obtain ⟨rfl, rfl, rfl⟩ := hcs
  exact ⟨xs, rfl, hC, hlc, hb⟩
end Go.Proofs.Ytdibolblgchpdaa.Rd
