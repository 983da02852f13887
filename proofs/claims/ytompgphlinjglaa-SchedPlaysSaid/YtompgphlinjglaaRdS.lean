/- Timings and rows of tasks that are arguments. -/
import Derived.Test.YtompgphlinjglaaRd
import Derived.Test.YtompgphlinjglaaS30
import Derived.Lib.SmallJoins
namespace Go.Proofs.Ytompgphlinjglaa.Rd
open Go.RowKit Go.WideShapes Go.Joins Go.Proofs.YtompgphlinjglaaW.PrintWords Go.Proofs.Ytompgphlinjglaa.P
set_option linter.unusedVariables false
set_option linter.unusedSimpArgs false

theorem two_parts {cs : List Value} {a b : Value} (hl : cs.length = 2) (h0 : (cs.drop 0).take 1 = [a]) (h1 : (cs.drop 1).take 1 = [b]) : cs = [a, b] := by
  match cs, hl with
  | [w, x], _ =>
    simp at h0 h1
    simp [h0, h1]
theorem rds_T31 : Rds Try.prog 31 kAct (fun _ => True) := by
  intro H enc w base spare held fuel cs x h hz
  obtain ⟨y0, y1, n, hx, hl, h0, h1⟩ := Go.ChangeShapes.trod_struct2 Try.underlying31 h
  subst hx
  have hw : ∀ m, (m ∈ y0.1.weights Try.prog 3 ∨ m ∈ y1.1.weights Try.prog 3) → m ≤ 140737488351232 := by
    intro m hm
    refine hz m ?_
    simp only [DataW.weights, Try.underlying31, List.map_cons, List.map_nil, DataW.weightsEach, List.mem_append, List.append_nil]
    rcases hm with hm | hm <;> simp [hm]
  obtain ⟨s0, e0, b0⟩ := rds_int Try.underlying3 H enc w base spare held n _ _ h0 (fun m hm => hw m (.inl hm))
  obtain ⟨s1, e1, b1⟩ := rds_int Try.underlying3 H enc w base spare held n _ _ h1 (fun m hm => hw m (.inr hm))
  have hl' : cs.length = 2 := hl.trans (by kernel_rfl)
  have c3 : Try.prog.cellsOf 3 = 1 := by kernel_rfl
  simp only [c3] at e0 e1
  have hcs := two_parts hl' e0 e1
  subst hcs
  exact ⟨(s0, s1), ⟨[.int .i64 s0], [.int .i64 s1], rfl, rfl, rfl⟩, trivial⟩
theorem rds_T22 : Rds Try.prog 22 (Kd.slice 3 (Kd.int .i64)) (fun xs => (∀ x ∈ xs, (Lit.int .i64 x).wf = true) ∧ xs.length * 8 ≤ 140737488351232) := Rd.rds_slice 8 Try.underlying22 (by kernel_rfl) (by kernel_rfl) (Rd.rds_int Try.underlying3)
theorem rds_T26 : Rds Try.prog 26 (Kd.slice 48 (Kd.int .u64)) (fun xs => (∀ x ∈ xs, (Lit.int .u64 x).wf = true) ∧ xs.length * 8 ≤ 140737488351232) := Rd.rds_slice 8 Try.underlying26 (by kernel_rfl) (by kernel_rfl) (Rd.rds_int Try.underlying48)
theorem rds_T32 : Rds Try.prog 32 kActs (fun xs => (∀ x ∈ xs, True) ∧ xs.length * 16 ≤ 140737488351232) := Rd.rds_slice 16 Try.underlying32 (by kernel_rfl) (by kernel_rfl) rds_T31
theorem rds_T44 : Rds Try.prog 44 (Kd.slice 32 kActs) (fun xs => (∀ x ∈ xs, (∀ y ∈ x, True) ∧ x.length * 16 ≤ 140737488351232) ∧ xs.length * 24 ≤ 140737488351232) := Rd.rds_slice 24 Try.underlying44 (by kernel_rfl) (by kernel_rfl) rds_T32
/-- A timing. -/
theorem arg_T28 {H : Type} {enc : TypeId × Value → H} {w : World} {base : Nat} {spare : Nat → Bool} {held : Bool} {r : Reach} {b0 : Nat} {v : Value} {d : DataW H} {ps : List MemPlace}
    (hv : Value.okWide Try.prog w r b0 28 v) (h : DataW.Trod enc Try.prog w base spare held 28 v d ps) (hz : ∀ n ∈ d.weights Try.prog 28, n ≤ 140737488351232) :
    ∃ (A0 : Option Addr) (c0 : Nat) (l0 : List Int) (A1 : Option Addr) (c1 : Nat) (l1 : List Int) (A2 : Option Addr) (c2 : Nat) (l2 : List Int), v = .agg #[.slice A0 l0.length c0, .slice A1 l1.length c1, .slice A2 l2.length c2] ∧ Kd.C (Kd.int .i64) w A0 l0.length l0 ∧ l0.length ≤ c0 ∧ Kd.C (Kd.int .i64) w A1 l1.length l1 ∧ l1.length ≤ c1 ∧ Kd.C (Kd.int .u64) w A2 l2.length l2 ∧ l2.length ≤ c2 := by
  obtain ⟨v0, v1, v2, y0, y1, y2, n, rfl, rfl, rfl, h0, h1, h2⟩ := open_agg3 Try.underlying28 (by kernel_rfl) (by kernel_rfl) hv h
  have hw : ∀ m, (m ∈ y0.1.weights Try.prog 22 ∨ m ∈ y1.1.weights Try.prog 22 ∨ m ∈ y2.1.weights Try.prog 26) → m ≤ 140737488351232 := by
    intro m hm
    refine hz m ?_
    simp only [DataW.weights, Try.underlying28, List.map_cons, List.map_nil, DataW.weightsEach, List.mem_append, List.append_nil]
    rcases hm with hm | hm | hm <;> simp [hm]
  obtain ⟨l0, ⟨A0, c0, e0, L0, C0⟩, _⟩ := rds_T22 H enc w base spare held n _ _ h0 (fun m hm => hw m (.inl hm))
  obtain ⟨l1, ⟨A1, c1, e1, L1, C1⟩, _⟩ := rds_T22 H enc w base spare held n _ _ h1 (fun m hm => hw m (.inr (.inl hm)))
  obtain ⟨l2, ⟨A2, c2, e2, L2, C2⟩, _⟩ := rds_T26 H enc w base spare held n _ _ h2 (fun m hm => hw m (.inr (.inr hm)))
  obtain rfl : v0 = .slice A0 l0.length c0 := by have : [v0] = [.slice A0 l0.length c0] := e0; simpa using this
  obtain rfl : v1 = .slice A1 l1.length c1 := by have : [v1] = [.slice A1 l1.length c1] := e1; simpa using this
  obtain rfl : v2 = .slice A2 l2.length c2 := by have : [v2] = [.slice A2 l2.length c2] := e2; simpa using this
  exact ⟨A0, c0, l0, A1, c1, l1, A2, c2, l2, rfl, C0, L0, C1, L1, C2, L2⟩
end Go.Proofs.Ytompgphlinjglaa.Rd
