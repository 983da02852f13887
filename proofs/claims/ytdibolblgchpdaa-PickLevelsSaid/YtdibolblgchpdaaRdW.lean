/- An array of two strings that is an argument. -/
import Derived.Test.YtdibolblgchpdaaRdV
import Derived.OpenShut
namespace Go.Proofs.Ytdibolblgchpdaa.Rd
open Go.RowKit Go.WideShapes Go.Joins Go.Proofs.YtdibolblgchpdaaW.PrintWords Go.Proofs.Ytdibolblgchpdaa.P
set_option linter.unusedVariables false
set_option linter.unusedSimpArgs false

theorem okWide_array' {P : Program} {w : World} {r : Reach} {base : Nat} {t e : TypeId} {v : Value} {n : Nat} (ht : P.underlying t = some (.array n e)) (h : Value.okWide P w r base t v) : ∃ cs, v = .agg cs ∧ cs.size = P.cellsOf t := by
  cases v <;> simp_all [Value.okWide]
theorem arg_T48 {H : Type} {enc : TypeId × Value → H} {w : World} {base : Nat} {spare : Nat → Bool} {held : Bool} {r : Reach} {b0 : Nat} {v : Value} {d : DataW H} {ps : List MemPlace}
    (hv : Value.okWide Try.prog w r b0 48 v) (h : DataW.Trod enc Try.prog w base spare held 48 v d ps) :
    ∃ a b : ByteArray, v = .agg #[.string a, .string b] := by
  obtain ⟨cs, rfl, hsz⟩ := okWide_array' Try.underlying48 hv
  obtain ⟨u0, u1, rfl⟩ := array2 (hsz.trans (by kernel_rfl))
  obtain ⟨fuel, hf⟩ := h
  obtain ⟨xs, n, _, _, hl, hlen, hx⟩ := DataW.trod_array Try.underlying48 hf
  have c9 : Try.prog.cellsOf 9 = 1 := by kernel_rfl
  have h0 := hx 0 (by decide)
  have h1 := hx 1 (by decide)
  match xs, hlen with
  | [y0, y1], _ =>
    obtain ⟨m0, e0, _, w0⟩ := DataW.trod_string Try.underlying9 (h0.trans rfl)
    obtain ⟨m1, e1, _, w1⟩ := DataW.trod_string Try.underlying9 (h1.trans rfl)
    simp only [c9, Nat.zero_mul, Nat.one_mul] at e0 e1
    have q0 : u0 = .string m0 := by simpa [Value.cells] using e0
    have q1 : u1 = .string m1 := by simpa [Value.cells] using e1
    subst q0
    subst q1
    exact ⟨m0, m1, rfl⟩
end Go.Proofs.Ytdibolblgchpdaa.Rd
