/- Arrays that are arguments: two numbers; two or three lists of cells. -/
import Derived.Test.YtdpnhnfhobmopaaRdS
import Derived.Lib.SmallJoins
import Derived.OpenShut
namespace Go.Proofs.Ytdpnhnfhobmopaa.Rd
open Go.RowKit Go.WideShapes Go.Joins Go.Proofs.YtdpnhnfhobmopaaW.PrintWords Go.Proofs.Ytdpnhnfhobmopaa.P
set_option linter.unusedVariables false
set_option linter.unusedSimpArgs false

theorem okWide_array' {P : Program} {w : World} {r : Reach} {base : Nat} {t e : TypeId} {v : Value} {n : Nat} (ht : P.underlying t = some (.array n e)) (h : Value.okWide P w r base t v) : ∃ cs, v = .agg cs ∧ cs.size = P.cellsOf t := by
  cases v <;> simp_all [Value.okWide]
theorem two_parts {cs : List Value} {a b : Value} (hl : cs.length = 2) (h0 : (cs.drop 0).take 1 = [a]) (h1 : (cs.drop 1).take 1 = [b]) : cs = [a, b] := by
  match cs, hl with
  | [w, x], _ =>
    simp at h0 h1
    simp [h0, h1]
/-- Two numbers. -/
theorem arg_T45 {H : Type} {enc : TypeId × Value → H} {w : World} {base : Nat} {spare : Nat → Bool} {held : Bool} {r : Reach} {b0 : Nat} {v : Value} {d : DataW H} {ps : List MemPlace}
    (hv : Value.okWide Try.prog w r b0 45 v) (h : DataW.Trod enc Try.prog w base spare held 45 v d ps) :
    ∃ m0 m1 : Int, v = .agg #[.int .u64 m0, .int .u64 m1] ∧ (Lit.int .u64 m0).wf = true ∧ (Lit.int .u64 m1).wf = true := by
  obtain ⟨cs, rfl, hsz⟩ := okWide_array' Try.underlying45 hv
  obtain ⟨u0, u1, rfl⟩ := array2 (hsz.trans (by kernel_rfl))
  obtain ⟨fuel, hf⟩ := h
  obtain ⟨xs, n, _, _, hl, hlen, hx⟩ := DataW.trod_array Try.underlying45 hf
  have c22 : Try.prog.cellsOf 22 = 1 := by kernel_rfl
  have h0 := hx 0 (by decide)
  have h1 := hx 1 (by decide)
  match xs, hlen with
  | [y0, y1], _ =>
    obtain ⟨m0, e0, _, w0⟩ := DataW.trod_int Try.underlying22 (h0.trans rfl)
    obtain ⟨m1, e1, _, w1⟩ := DataW.trod_int Try.underlying22 (h1.trans rfl)
    simp only [c22, Nat.zero_mul, Nat.one_mul] at e0 e1
    have q0 : u0 = .int .u64 m0 := by simpa [Value.cells] using e0
    have q1 : u1 = .int .u64 m1 := by simpa [Value.cells] using e1
    subst q0
    subst q1
    exact ⟨m0, m1, rfl, w0, w1⟩
end Go.Proofs.Ytdpnhnfhobmopaa.Rd
