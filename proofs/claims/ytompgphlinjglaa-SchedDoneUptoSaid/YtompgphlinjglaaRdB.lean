/- Timings and rows of tasks that are arguments, whatever their size. -/
import Derived.Test.YtompgphlinjglaaRd
import Derived.Test.YtompgphlinjglaaS30
import Derived.Test.YtompgphlinjglaaRows
import Derived.Lib.SmallJoins
namespace Go.Proofs.Ytompgphlinjglaa.Rd
open Go.RowKit Go.WideShapes Go.ChangeShapes Go.Joins Go.Deep Go.Proofs.YtompgphlinjglaaW.PrintWords Go.Proofs.Ytompgphlinjglaa.P
set_option linter.unusedVariables false
set_option linter.unusedSimpArgs false

/-- What is read as data of type T reads as this kind, whatever its size. -/
def Rd0 {α : Type} (P : Program) (T : TypeId) (d : Kd α) : Prop :=
  ∀ (H : Type) (enc : TypeId × Value → H) (w : World) (base : Nat) (spare : Nat → Bool) (held : Bool) (fuel : Nat) (cs : List Value) (x : DataW H × List MemPlace),
    DataW.trod enc P w base spare held fuel T cs = some x → ∃ a, d.K w a cs
section
variable {P : Program} {T : TypeId}
theorem rd0_int {k : IntKind} (hu : P.underlying T = some (.int k)) : Rd0 P T (Kd.int k) := by
  intro H enc w base spare held fuel cs x h
  obtain ⟨n, rfl, rfl, hw⟩ := DataW.trod_int hu h
  exact ⟨n, rfl⟩
theorem rd0_slice {α : Type} {e : TypeId} {d : Kd α} (hu : P.underlying T = some (.slice e)) (hc : P.cellsOf e = d.sz) (hd : Rd0 P e d) : Rd0 P T (Kd.slice e d) := by
  intro H enc w base spare held fuel cs x h
  rcases DataW.trod_slice hu h with ⟨rfl, rfl⟩ | ⟨a, len, cap, elems, rest, n, _, rfl, rfl, hb, hl, hm, hlen, hel, hsp, hns⟩
  · exact ⟨[], none, 0, rfl, by simp, by simp, by simp, fun hp => absurd hp (by simp)⟩
  · have each : ∀ i, i < len → ∃ cs' a', w.cells? base (a.add (i * P.cellsOf e)) (P.cellsOf e) = some cs' ∧ d.K w a' cs' := by
      intro i hi
      have he := hel i hi
      have hs : elems[i]? = some (elems[i]'(by omega)) := List.getElem?_eq_getElem (by omega)
      rw [hs, Option.bind_eq_some_iff] at he
      obtain ⟨cs', h1, h2⟩ := he
      obtain ⟨a', h3⟩ := hd H enc w base spare held n cs' _ h2
      exact ⟨cs', a', h1, h3⟩
    obtain ⟨xs, hxl, hx⟩ := choose_list (l := List.range len) (R := fun i a' => ∃ cs', w.cells? base (a.add (i * P.cellsOf e)) (P.cellsOf e) = some cs' ∧ d.K w a' cs') (fun i hi => by
      obtain ⟨cs', a', h1, h2⟩ := each i (by simpa using hi)
      exact ⟨a', cs', h1, h2⟩)
    rw [List.length_range] at hxl
    have hat : ∀ i p, xs[i]? = some p → ∃ cs', w.cells? base (a.add (i * P.cellsOf e)) (P.cellsOf e) = some cs' ∧ d.K w p cs' := by
      intro i p hp
      have hi : i < len := by have := (List.getElem?_eq_some_iff.1 hp).1; omega
      obtain ⟨p', h1, h2⟩ := hx i i (by simp [hi])
      rw [hp] at h1
      cases h1
      exact h2
    refine ⟨xs, some a, cap, by rw [hxl], by omega, hxl ▸ rfl, by simp only [maxLen] at hm; omega, fun _ => ⟨a, rfl, fun j p hp => ?_⟩⟩
    obtain ⟨cs', h1, h2⟩ := hat j p hp
    obtain ⟨h4, h5⟩ := cells_at h1
    refine ⟨cs', by rw [h4, hc], h2, fun i u hiu => ?_⟩
    rw [← hc, ← add_add]
    exact h5 i u hiu
/-- A slice that is an argument. -/
theorem arg0_slice {α : Type} {e : TypeId} {d : Kd α} {H : Type} {enc : TypeId × Value → H} {w : World} {base : Nat} {spare : Nat → Bool} {held : Bool} {a : Option Addr} {len cap : Nat} {dd : DataW H} {ps : List MemPlace}
    (hd : Rd0 P T (Kd.slice e d)) (h : DataW.Trod enc P w base spare held T (.slice a len cap) dd ps) :
    ∃ xs : List α, xs.length = len ∧ Kd.C d w a xs.length xs ∧ xs.length ≤ cap := by
  obtain ⟨fuel, hf⟩ := h
  obtain ⟨xs, ⟨A, c, hcs, hlc, hC⟩⟩ := hd H enc w base spare held fuel _ _ hf
  simp [Value.cells] at hcs
  obtain ⟨rfl, rfl, rfl⟩ := hcs
  exact ⟨xs, rfl, hC, hlc⟩
end
theorem two_parts0 {cs : List Value} {a b : Value} (hl : cs.length = 2) (h0 : (cs.drop 0).take 1 = [a]) (h1 : (cs.drop 1).take 1 = [b]) : cs = [a, b] := by
  match cs, hl with
  | [w, x], _ =>
    simp at h0 h1
    simp [h0, h1]
theorem rd0_T31 : Rd0 Try.prog 31 kAct := by
  intro H enc w base spare held fuel cs x h
  obtain ⟨y0, y1, n, hx, hl, h0, h1⟩ := Go.ChangeShapes.trod_struct2 Try.underlying31 h
  subst hx
  obtain ⟨s0, e0⟩ := rd0_int Try.underlying3 H enc w base spare held n _ _ h0
  obtain ⟨s1, e1⟩ := rd0_int Try.underlying3 H enc w base spare held n _ _ h1
  have hl' : cs.length = 2 := hl.trans (by kernel_rfl)
  have c3 : Try.prog.cellsOf 3 = 1 := by kernel_rfl
  simp only [c3] at e0 e1
  have hcs := two_parts0 hl' e0 e1
  subst hcs
  exact ⟨(s0, s1), ⟨[.int .i64 s0], [.int .i64 s1], rfl, rfl, rfl⟩⟩
theorem rd0_T22 : Rd0 Try.prog 22 (Kd.slice 3 (Kd.int .i64)) := rd0_slice Try.underlying22 (by kernel_rfl) (rd0_int Try.underlying3)
theorem rd0_T26 : Rd0 Try.prog 26 (Kd.slice 48 (Kd.int .u64)) := rd0_slice Try.underlying26 (by kernel_rfl) (rd0_int Try.underlying48)
theorem rd0_T32 : Rd0 Try.prog 32 kActs := rd0_slice Try.underlying32 (by kernel_rfl) rd0_T31
theorem rd0_T44 : Rd0 Try.prog 44 (Kd.slice 32 kActs) := rd0_slice Try.underlying44 (by kernel_rfl) rd0_T32
/-- A timing. -/
theorem arg0_T28 {H : Type} {enc : TypeId × Value → H} {w : World} {base : Nat} {spare : Nat → Bool} {held : Bool} {r : Reach} {b0 : Nat} {v : Value} {d : DataW H} {ps : List MemPlace}
    (hv : Value.okWide Try.prog w r b0 28 v) (h : DataW.Trod enc Try.prog w base spare held 28 v d ps) :
    ∃ (A0 : Option Addr) (c0 : Nat) (l0 : List Int) (A1 : Option Addr) (c1 : Nat) (l1 : List Int) (A2 : Option Addr) (c2 : Nat) (l2 : List Int), v = .agg #[.slice A0 l0.length c0, .slice A1 l1.length c1, .slice A2 l2.length c2] ∧ Kd.C (Kd.int .i64) w A0 l0.length l0 ∧ l0.length ≤ c0 ∧ Kd.C (Kd.int .i64) w A1 l1.length l1 ∧ l1.length ≤ c1 ∧ Kd.C (Kd.int .u64) w A2 l2.length l2 ∧ l2.length ≤ c2 := by
  obtain ⟨v0, v1, v2, y0, y1, y2, n, rfl, rfl, rfl, h0, h1, h2⟩ := open_agg3 Try.underlying28 (by kernel_rfl) (by kernel_rfl) hv h
  obtain ⟨l0, A0, c0, e0, L0, C0⟩ := rd0_T22 H enc w base spare held n _ _ h0
  obtain ⟨l1, A1, c1, e1, L1, C1⟩ := rd0_T22 H enc w base spare held n _ _ h1
  obtain ⟨l2, A2, c2, e2, L2, C2⟩ := rd0_T26 H enc w base spare held n _ _ h2
  obtain rfl : v0 = .slice A0 l0.length c0 := by have : [v0] = [.slice A0 l0.length c0] := e0; simpa using this
  obtain rfl : v1 = .slice A1 l1.length c1 := by have : [v1] = [.slice A1 l1.length c1] := e1; simpa using this
  obtain rfl : v2 = .slice A2 l2.length c2 := by have : [v2] = [.slice A2 l2.length c2] := e2; simpa using this
  exact ⟨A0, c0, l0, A1, c1, l1, A2, c2, l2, rfl, C0, L0, C1, L1, C2, L2⟩
end Go.Proofs.Ytompgphlinjglaa.Rd
