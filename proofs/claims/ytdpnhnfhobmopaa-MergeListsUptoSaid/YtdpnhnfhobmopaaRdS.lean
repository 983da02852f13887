/- Cells that are arguments: what is read as data of the cell's type reads as a kind of the print's words. -/
import Derived.Test.YtdpnhnfhobmopaaRd
import Derived.Test.YtdpnhnfhobmopaaP0
import Derived.Lib.SmallJoins
namespace Go.Proofs.Ytdpnhnfhobmopaa.Rd
open Go.RowKit Go.WideShapes Go.Joins Go.Proofs.YtdpnhnfhobmopaaW.PrintWords Go.Proofs.Ytdpnhnfhobmopaa.P
set_option linter.unusedVariables false
set_option linter.unusedSimpArgs false

/-- A cell's strings are within the reach, its number is one of its kind. -/
def OkC (x : S24) : Prop := x.f0.size ≤ 140737488351232 ∧ (Lit.int .u64 x.f1).wf = true ∧ x.f2.size ≤ 140737488351232
theorem four_parts {cs : List Value} {a b c d : Value} (hl : cs.length = 4) (h0 : (cs.drop 0).take 1 = [a]) (h1 : (cs.drop 1).take 1 = [b]) (h2 : (cs.drop 2).take 1 = [c]) (h3 : (cs.drop 3).take 1 = [d]) : cs = [a, b, c, d] := by
  match cs, hl with
  | [w, x, y, z], _ =>
    simp at h0 h1 h2 h3
    simp [h0, h1, h2, h3]
theorem rds_T24 : Rds Try.prog 24 k24 OkC := by
  intro H enc w base spare held fuel cs x h hz
  obtain ⟨y0, y1, y2, y3, n, hx, hl, h0, h1, h2, h3⟩ := trod_struct4 Try.underlying24 h
  subst hx
  have hw : ∀ m, (m ∈ y0.1.weights Try.prog 9 ∨ m ∈ y1.1.weights Try.prog 22 ∨ m ∈ y2.1.weights Try.prog 9 ∨ m ∈ y3.1.weights Try.prog 4) → m ≤ 140737488351232 := by
    intro m hm
    refine hz m ?_
    simp only [DataW.weights, Try.underlying24, List.map_cons, List.map_nil, DataW.weightsEach, List.mem_append, List.append_nil]
    rcases hm with hm | hm | hm | hm <;> simp [hm]
  obtain ⟨s0, e0, b0⟩ := rds_string Try.underlying9 H enc w base spare held n _ _ h0 (fun m hm => hw m (.inl hm))
  obtain ⟨s1, e1, b1⟩ := rds_int Try.underlying22 H enc w base spare held n _ _ h1 (fun m hm => hw m (.inr (.inl hm)))
  obtain ⟨s2, e2, b2⟩ := rds_string Try.underlying9 H enc w base spare held n _ _ h2 (fun m hm => hw m (.inr (.inr (.inl hm))))
  obtain ⟨s3, e3, b3⟩ := rds_bool Try.underlying4 H enc w base spare held n _ _ h3 (fun m hm => hw m (.inr (.inr (.inr hm))))
  have hl' : cs.length = 4 := hl.trans (by kernel_rfl)
  have c9 : Try.prog.cellsOf 9 = 1 := by kernel_rfl
  have c22 : Try.prog.cellsOf 22 = 1 := by kernel_rfl
  have c4' : Try.prog.cellsOf 4 = 1 := by kernel_rfl
  simp only [c9, c22, c4'] at e0 e1 e2 e3
  have hcs := four_parts hl' e0 e1 e2 e3
  subst hcs
  exact ⟨⟨s0, s1, s2, s3⟩, k24_mk w ⟨s0, s1, s2, s3⟩, b0, b1, b2⟩
/-- A cell that is an argument. -/
theorem arg_T24 {H : Type} {enc : TypeId × Value → H} {w : World} {base : Nat} {spare : Nat → Bool} {held : Bool} {r : Reach} {b0 : Nat} {v : Value} {d : DataW H} {ps : List MemPlace}
    (hv : Value.okWide Try.prog w r b0 24 v) (h : DataW.Trod enc Try.prog w base spare held 24 v d ps) (hz : ∀ n ∈ d.weights Try.prog 24, n ≤ 140737488351232) :
    ∃ x : S24, v = .agg #[.string x.f0, .int .u64 x.f1, .string x.f2, .bool x.f3] ∧ OkC x := by
  obtain ⟨v0, v1, v2, v3, y0, y1, y2, y3, n, rfl, rfl, rfl, h0, h1, h2, h3⟩ := open_agg4 Try.underlying24 (by kernel_rfl) (by kernel_rfl) hv h
  have hw : ∀ m, (m ∈ y0.1.weights Try.prog 9 ∨ m ∈ y1.1.weights Try.prog 22 ∨ m ∈ y2.1.weights Try.prog 9 ∨ m ∈ y3.1.weights Try.prog 4) → m ≤ 140737488351232 := by
    intro m hm
    refine hz m ?_
    simp only [DataW.weights, Try.underlying24, List.map_cons, List.map_nil, DataW.weightsEach, List.mem_append, List.append_nil]
    rcases hm with hm | hm | hm | hm <;> simp [hm]
  obtain ⟨s0, e0, b0⟩ := rds_string Try.underlying9 H enc w base spare held n _ _ h0 (fun m hm => hw m (.inl hm))
  obtain ⟨s1, e1, b1⟩ := rds_int Try.underlying22 H enc w base spare held n _ _ h1 (fun m hm => hw m (.inr (.inl hm)))
  obtain ⟨s2, e2, b2⟩ := rds_string Try.underlying9 H enc w base spare held n _ _ h2 (fun m hm => hw m (.inr (.inr (.inl hm))))
  obtain ⟨s3, e3, b3⟩ := rds_bool Try.underlying4 H enc w base spare held n _ _ h3 (fun m hm => hw m (.inr (.inr (.inr hm))))
  obtain rfl : v0 = .string s0 := by have : [v0] = [.string s0] := e0; simpa using this
  obtain rfl : v1 = .int .u64 s1 := by have : [v1] = [.int .u64 s1] := e1; simpa using this
  obtain rfl : v2 = .string s2 := by have : [v2] = [.string s2] := e2; simpa using this
  obtain rfl : v3 = .bool s3 := by have : [v3] = [.bool s3] := e3; simpa using this
  exact ⟨⟨s0, s1, s2, s3⟩, rfl, b0, b1, b2⟩
end Go.Proofs.Ytdpnhnfhobmopaa.Rd
