/- Arrays of lists of cells that are arguments, where the bulk of what is read is bounded. -/
import Derived.Test.YtdpnhnfhobmopaaRdA
import Derived.Test.YtdpnhnfhobmopaaRdB
namespace Go.Proofs.Ytdpnhnfhobmopaa.Rd
open Go.RowKit Go.WideShapes Go.Joins Go.Proofs.YtdpnhnfhobmopaaW.PrintWords Go.Proofs.Ytdpnhnfhobmopaa.P
set_option linter.unusedVariables false
set_option linter.unusedSimpArgs false

/-- Two lists. -/
theorem argB_T49 {H : Type} {enc : TypeId × Value → H} {w : World} {base : Nat} {spare : Nat → Bool} {held : Bool} {r : Reach} {b0 : Nat} {v : Value} {d : DataW H} {ps : List MemPlace}
    (hv : Value.okWide Try.prog w r b0 49 v) (h : DataW.Trod enc Try.prog w base spare held 49 v d ps) :
    ∃ (A0 : Option Addr) (c0 : Nat) (l0 : List S24) (A1 : Option Addr) (c1 : Nat) (l1 : List S24), v = .agg #[.slice A0 l0.length c0, .slice A1 l1.length c1] ∧ Kd.C k24 w A0 l0.length l0 ∧ l0.length ≤ c0 ∧ Kd.C k24 w A1 l1.length l1 ∧ l1.length ≤ c1 ∧ cellsB l0 + cellsB l1 ≤ Rows.uptoBulk d := by
  obtain ⟨cs, rfl, hsz⟩ := okWide_array' Try.underlying49 hv
  obtain ⟨u0, u1, rfl⟩ := array2 (hsz.trans (by kernel_rfl))
  obtain ⟨fuel, hf⟩ := h
  obtain ⟨xs, n, _, hd, hl, hlen, hx⟩ := DataW.trod_array Try.underlying49 hf
  have hd1 : d = .agg (xs.map (·.1)) := congrArg Prod.fst hd
  subst hd1
  have c25 : Try.prog.cellsOf 25 = 1 := by kernel_rfl
  have h0 := hx 0 (by decide)
  have h1 := hx 1 (by decide)
  match xs, hlen with
  | [y0, y1], _ =>
    obtain ⟨A0, c0, l0, e0, C0, L0, B0⟩ := bulk_T25 (h0.trans rfl)
    obtain ⟨A1, c1, l1, e1, C1, L1, B1⟩ := bulk_T25 (h1.trans rfl)
    simp only [c25, Nat.zero_mul, Nat.one_mul] at e0 e1
    have q0 : u0 = .slice A0 l0.length c0 := by simpa [Value.cells] using e0
    have q1 : u1 = .slice A1 l1.length c1 := by simpa [Value.cells] using e1
    subst q0
    subst q1
    refine ⟨A0, c0, l0, A1, c1, l1, rfl, C0, L0, C1, L1, ?_⟩
    simp only [List.map_cons, List.map_nil, Rows.uptoBulk, Rows.uptoBulkAll]
    omega
theorem array3' {α : Type} {cs : Array α} (h : cs.size = 3) : ∃ c0 c1 c2, cs = #[c0, c1, c2] := by
  obtain ⟨l⟩ := cs
  match l, h with
  | [a, b, c], _ => exact ⟨a, b, c, rfl⟩
/-- Three lists. -/
theorem argB_T30 {H : Type} {enc : TypeId × Value → H} {w : World} {base : Nat} {spare : Nat → Bool} {held : Bool} {r : Reach} {b0 : Nat} {v : Value} {d : DataW H} {ps : List MemPlace}
    (hv : Value.okWide Try.prog w r b0 30 v) (h : DataW.Trod enc Try.prog w base spare held 30 v d ps) :
    ∃ (A0 : Option Addr) (c0 : Nat) (l0 : List S24) (A1 : Option Addr) (c1 : Nat) (l1 : List S24) (A2 : Option Addr) (c2 : Nat) (l2 : List S24), v = .agg #[.slice A0 l0.length c0, .slice A1 l1.length c1, .slice A2 l2.length c2] ∧ Kd.C k24 w A0 l0.length l0 ∧ l0.length ≤ c0 ∧ Kd.C k24 w A1 l1.length l1 ∧ l1.length ≤ c1 ∧ Kd.C k24 w A2 l2.length l2 ∧ l2.length ≤ c2 ∧ cellsB l0 + cellsB l1 + cellsB l2 ≤ Rows.uptoBulk d := by
  obtain ⟨cs, rfl, hsz⟩ := okWide_array' Try.underlying30 hv
  obtain ⟨u0, u1, u2, rfl⟩ := array3' (hsz.trans (by kernel_rfl))
  obtain ⟨fuel, hf⟩ := h
  obtain ⟨xs, n, _, hd, hl, hlen, hx⟩ := DataW.trod_array Try.underlying30 hf
  have hd1 : d = .agg (xs.map (·.1)) := congrArg Prod.fst hd
  subst hd1
  have c25 : Try.prog.cellsOf 25 = 1 := by kernel_rfl
  have h0 := hx 0 (by decide)
  have h1 := hx 1 (by decide)
  have h2 := hx 2 (by decide)
  match xs, hlen with
  | [y0, y1, y2], _ =>
    obtain ⟨A0, c0, l0, e0, C0, L0, B0⟩ := bulk_T25 (h0.trans rfl)
    obtain ⟨A1, c1, l1, e1, C1, L1, B1⟩ := bulk_T25 (h1.trans rfl)
    obtain ⟨A2, c2, l2, e2, C2, L2, B2⟩ := bulk_T25 (h2.trans rfl)
    simp only [c25, Nat.zero_mul, Nat.one_mul] at e0 e1 e2
    have q0 : u0 = .slice A0 l0.length c0 := by simpa [Value.cells] using e0
    have q1 : u1 = .slice A1 l1.length c1 := by simpa [Value.cells] using e1
    have q2 : u2 = .slice A2 l2.length c2 := by simpa [Value.cells] using e2
    subst q0
    subst q1
    subst q2
    refine ⟨A0, c0, l0, A1, c1, l1, A2, c2, l2, rfl, C0, L0, C1, L1, C2, L2, ?_⟩
    simp only [List.map_cons, List.map_nil, Rows.uptoBulk, Rows.uptoBulkAll]
    omega
end Go.Proofs.Ytdpnhnfhobmopaa.Rd
