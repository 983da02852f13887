/- Versions and options that are arguments: what is read as data of their types reads as kinds of the print's words. -/
import Derived.Test.YtdibolblgchpdaaRRd
import Derived.Test.YtdibolblgchpdaaRP0
import Derived.Lib.SmallJoins
import Derived.Deep.Strs
namespace Go.Proofs.Ytdibolblgchpdaa.Rd
open Go.RowKit Go.WideShapes Go.Joins Go.Proofs.YtdibolblgchpdaaW.PrintWords Go.Proofs.Ytdibolblgchpdaa.P
set_option linter.unusedVariables false
set_option linter.unusedSimpArgs false
theorem five_parts {cs : List Value} {a b c d e : Value} (hl : cs.length = 5) (h0 : (cs.drop 0).take 1 = [a]) (h1 : (cs.drop 1).take 1 = [b]) (h2 : (cs.drop 2).take 1 = [c]) (h3 : (cs.drop 3).take 1 = [d]) (h4 : (cs.drop 4).take 1 = [e]) : cs = [a, b, c, d, e] := by
  match cs, hl with
  | [v, w, x, y, z], _ =>
    simp at h0 h1 h2 h3 h4
    simp [h0, h1, h2, h3, h4]
theorem rds_T44 : Rds Try.prog 44 k44 (fun _ => True) := by
  intro H enc w base spare held fuel cs x h hz
  obtain ⟨xs, n, _, rfl, hl, hlen, hf⟩ := DataW.trod_struct Try.underlying44 h
  have hlen' : xs.length = 5 := hlen
  match xs, hlen' with
  | [y0, y1, y2, y3, y4], _ =>
    have c3 : Try.prog.cellsOf 3 = 1 := by kernel_rfl
    have c9 : Try.prog.cellsOf 9 = 1 := by kernel_rfl
    have h0 : DataW.trod enc Try.prog w base spare held n 3 ((cs.drop 0).take 1) = some y0 := by
      have q : DataW.trod enc Try.prog w base spare held n 3 ((cs.drop 0).take (Try.prog.cellsOf 3)) = some y0 := hf 0 _ rfl
      rw [show Try.prog.cellsOf 3 = 1 from by kernel_rfl] at q
      exact q
    have h1 : DataW.trod enc Try.prog w base spare held n 3 ((cs.drop 1).take 1) = some y1 := by
      have q : DataW.trod enc Try.prog w base spare held n 3 ((cs.drop 1).take (Try.prog.cellsOf 3)) = some y1 := hf 1 _ rfl
      rw [show Try.prog.cellsOf 3 = 1 from by kernel_rfl] at q
      exact q
    have h2 : DataW.trod enc Try.prog w base spare held n 3 ((cs.drop 2).take 1) = some y2 := by
      have q : DataW.trod enc Try.prog w base spare held n 3 ((cs.drop 2).take (Try.prog.cellsOf 3)) = some y2 := hf 2 _ rfl
      rw [show Try.prog.cellsOf 3 = 1 from by kernel_rfl] at q
      exact q
    have h3 : DataW.trod enc Try.prog w base spare held n 9 ((cs.drop 3).take 1) = some y3 := by
      have q : DataW.trod enc Try.prog w base spare held n 9 ((cs.drop 3).take (Try.prog.cellsOf 9)) = some y3 := hf 3 _ rfl
      rw [show Try.prog.cellsOf 9 = 1 from by kernel_rfl] at q
      exact q
    have h4 : DataW.trod enc Try.prog w base spare held n 9 ((cs.drop 4).take 1) = some y4 := by
      have q : DataW.trod enc Try.prog w base spare held n 9 ((cs.drop 4).take (Try.prog.cellsOf 9)) = some y4 := hf 4 _ rfl
      rw [show Try.prog.cellsOf 9 = 1 from by kernel_rfl] at q
      exact q
    obtain ⟨s0, e0, _, _⟩ := DataW.trod_int Try.underlying3 h0
    obtain ⟨s1, e1, _, _⟩ := DataW.trod_int Try.underlying3 h1
    obtain ⟨s2, e2, _, _⟩ := DataW.trod_int Try.underlying3 h2
    obtain ⟨s3, e3, _, _⟩ := DataW.trod_string Try.underlying9 h3
    obtain ⟨s4, e4, _, _⟩ := DataW.trod_string Try.underlying9 h4
    have hl' : cs.length = 5 := hl.trans (by kernel_rfl)
    have hcs := five_parts hl' e0 e1 e2 e3 e4
    subst hcs
    exact ⟨⟨s0, s1, s2, s3, s4⟩, k44_mk w ⟨s0, s1, s2, s3, s4⟩, trivial⟩
theorem rds_T42 : Rds Try.prog 42 (Kd.slice 44 k44) (fun xs => (∀ x ∈ xs, True) ∧ xs.length * 56 ≤ 140737488351232) := rds_slice 56 Try.underlying42 (by kernel_rfl) (by kernel_rfl) rds_T44
theorem rds_T22 : Rds Try.prog 22 (Kd.slice 42 (Kd.slice 44 k44)) (fun xs => (∀ x ∈ xs, (∀ y ∈ x, True) ∧ x.length * 56 ≤ 140737488351232) ∧ xs.length * 24 ≤ 140737488351232) := rds_slice 24 Try.underlying22 (by kernel_rfl) (by kernel_rfl) rds_T42
set_option maxRecDepth 100000 in
/-- A version that is an argument. -/
theorem arg_T24 {H : Type} {enc : TypeId × Value → H} {w : World} {base : Nat} {spare : Nat → Bool} {held : Bool} {r : Reach} {b0 : Nat} {v : Value} {d : DataW H} {ps : List MemPlace}
    (hv : Value.okWide Try.prog w r b0 24 v) (h : DataW.Trod enc Try.prog w base spare held 24 v d ps) (hz : ∀ n ∈ d.weights Try.prog 24, n ≤ 140737488351232) :
    ∃ (A : Option Addr) (c : Nat) (ls : List (List S44)), v = .agg #[.slice A ls.length c] ∧ Kd.C (Kd.slice 44 k44) w A ls.length ls ∧ ls.length ≤ c ∧ (∀ l ∈ ls, l.length * 56 ≤ 140737488351232) ∧ ls.length * 24 ≤ 140737488351232 := by
  obtain ⟨cs, rfl, hsz⟩ := okWide_struct Try.underlying24 hv
  obtain ⟨fuel, hf⟩ := h
  obtain ⟨xs, n, _, hx, hl, hlen, hfs⟩ := DataW.trod_struct Try.underlying24 hf
  have hd : d = .agg (xs.map (·.1)) := congrArg Prod.fst hx
  subst hd
  have hlen' : xs.length = 1 := hlen
  match xs, hlen' with
  | [y0], _ =>
    have c22 : Try.prog.cellsOf 22 = 1 := by kernel_rfl
    have h0 : DataW.trod enc Try.prog w base spare held n 22 (((Value.agg cs).cells.toList.drop 0).take 1) = some y0 := by
      have q : DataW.trod enc Try.prog w base spare held n 22 (((Value.agg cs).cells.toList.drop 0).take (Try.prog.cellsOf 22)) = some y0 := hfs 0 _ rfl
      rw [show Try.prog.cellsOf 22 = 1 from by kernel_rfl] at q
      exact q
    obtain ⟨ls, hK, hok⟩ := rds_T22 H enc w base spare held n _ y0 h0 (fun m hm => hz m (by
      simp only [DataW.weights, Try.underlying24, List.map_cons, List.map_nil, DataW.weightsEach, List.append_nil, List.mem_append]
      first | exact hm | simpa using hm))
    obtain ⟨A, c, e, hlc, hC⟩ := hK
    have hs1 : cs.size = 1 := hsz.trans (by kernel_rfl)
    obtain ⟨l⟩ := cs
    match l, hs1 with
    | [u], _ =>
      have hu : u = .slice A ls.length c := by simpa [Value.cells] using e
      subst hu
      exact ⟨A, c, ls, rfl, hC, hlc, fun l hl => (hok.1 l hl).2, hok.2⟩
set_option maxRecDepth 100000 in
/-- Options that are an argument. -/
theorem arg_T28 {H : Type} {enc : TypeId × Value → H} {w : World} {base : Nat} {spare : Nat → Bool} {held : Bool} {r : Reach} {b0 : Nat} {v : Value} {d : DataW H} {ps : List MemPlace}
    (hv : Value.okWide Try.prog w r b0 28 v) (h : DataW.Trod enc Try.prog w base spare held 28 v d ps) :
    ∃ o0 o1 o2 o3 o4 o5 o6 : Int, v = .agg #[.int .i64 o0, .int .i64 o1, .int .i64 o2, .int .i64 o3, .int .i64 o4, .int .i64 o5, .int .i64 o6] := by
  obtain ⟨cs, rfl, hsz⟩ := okWide_struct Try.underlying28 hv
  obtain ⟨fuel, hf⟩ := h
  obtain ⟨xs, n, _, hx, hl, hlen, hfs⟩ := DataW.trod_struct Try.underlying28 hf
  have hs1 : cs.size = 7 := hsz.trans (by kernel_rfl)
  have hlen' : xs.length = 5 := hlen
  match xs, hlen' with
  | [y0, y1, y2, y3, y4], _ =>
    have c3 : Try.prog.cellsOf 3 = 1 := by kernel_rfl
    have c26 : Try.prog.cellsOf 26 = 3 := by kernel_rfl
    have h0 : DataW.trod enc Try.prog w base spare held n 26 (((Value.agg cs).cells.toList.drop 0).take 3) = some y0 := by
      have q : DataW.trod enc Try.prog w base spare held n 26 (((Value.agg cs).cells.toList.drop 0).take (Try.prog.cellsOf 26)) = some y0 := hfs 0 _ rfl
      rw [show Try.prog.cellsOf 26 = 3 from by kernel_rfl] at q
      exact q
    have h1 : DataW.trod enc Try.prog w base spare held n 3 (((Value.agg cs).cells.toList.drop 3).take 1) = some y1 := by
      have q : DataW.trod enc Try.prog w base spare held n 3 (((Value.agg cs).cells.toList.drop 3).take (Try.prog.cellsOf 3)) = some y1 := hfs 1 _ rfl
      rw [show Try.prog.cellsOf 3 = 1 from by kernel_rfl] at q
      exact q
    have h2 : DataW.trod enc Try.prog w base spare held n 3 (((Value.agg cs).cells.toList.drop 4).take 1) = some y2 := by
      have q : DataW.trod enc Try.prog w base spare held n 3 (((Value.agg cs).cells.toList.drop 4).take (Try.prog.cellsOf 3)) = some y2 := hfs 2 _ rfl
      rw [show Try.prog.cellsOf 3 = 1 from by kernel_rfl] at q
      exact q
    have h3 : DataW.trod enc Try.prog w base spare held n 3 (((Value.agg cs).cells.toList.drop 5).take 1) = some y3 := by
      have q : DataW.trod enc Try.prog w base spare held n 3 (((Value.agg cs).cells.toList.drop 5).take (Try.prog.cellsOf 3)) = some y3 := hfs 3 _ rfl
      rw [show Try.prog.cellsOf 3 = 1 from by kernel_rfl] at q
      exact q
    have h4 : DataW.trod enc Try.prog w base spare held n 3 (((Value.agg cs).cells.toList.drop 6).take 1) = some y4 := by
      have q : DataW.trod enc Try.prog w base spare held n 3 (((Value.agg cs).cells.toList.drop 6).take (Try.prog.cellsOf 3)) = some y4 := hfs 4 _ rfl
      rw [show Try.prog.cellsOf 3 = 1 from by kernel_rfl] at q
      exact q
    obtain ⟨zs, m, _, hzx, hzl, hzlen, hzf⟩ := DataW.trod_struct Try.underlying26 h0
    have hzlen' : zs.length = 3 := hzlen
    obtain ⟨l⟩ := cs
    match l, hs1 with
    | [u0, u1, u2, u3, u4, u5, u6], _ =>
      match zs, hzlen' with
      | [z0, z1, z2], _ =>
        have g0 : DataW.trod enc Try.prog w base spare held m 3 (((((Value.agg ⟨[u0, u1, u2, u3, u4, u5, u6]⟩).cells.toList.drop 0).take 3).drop 0).take 1) = some z0 := by
          have q : DataW.trod enc Try.prog w base spare held m 3 (((((Value.agg ⟨[u0, u1, u2, u3, u4, u5, u6]⟩).cells.toList.drop 0).take 3).drop 0).take (Try.prog.cellsOf 3)) = some z0 := hzf 0 _ rfl
          rw [show Try.prog.cellsOf 3 = 1 from by kernel_rfl] at q
          exact q
        have g1 : DataW.trod enc Try.prog w base spare held m 3 (((((Value.agg ⟨[u0, u1, u2, u3, u4, u5, u6]⟩).cells.toList.drop 0).take 3).drop 1).take 1) = some z1 := by
          have q : DataW.trod enc Try.prog w base spare held m 3 (((((Value.agg ⟨[u0, u1, u2, u3, u4, u5, u6]⟩).cells.toList.drop 0).take 3).drop 1).take (Try.prog.cellsOf 3)) = some z1 := hzf 1 _ rfl
          rw [show Try.prog.cellsOf 3 = 1 from by kernel_rfl] at q
          exact q
        have g2 : DataW.trod enc Try.prog w base spare held m 3 (((((Value.agg ⟨[u0, u1, u2, u3, u4, u5, u6]⟩).cells.toList.drop 0).take 3).drop 2).take 1) = some z2 := by
          have q : DataW.trod enc Try.prog w base spare held m 3 (((((Value.agg ⟨[u0, u1, u2, u3, u4, u5, u6]⟩).cells.toList.drop 0).take 3).drop 2).take (Try.prog.cellsOf 3)) = some z2 := hzf 2 _ rfl
          rw [show Try.prog.cellsOf 3 = 1 from by kernel_rfl] at q
          exact q
        obtain ⟨s0, e0, _, _⟩ := DataW.trod_int Try.underlying3 g0
        obtain ⟨s1, e1, _, _⟩ := DataW.trod_int Try.underlying3 g1
        obtain ⟨s2, e2, _, _⟩ := DataW.trod_int Try.underlying3 g2
        obtain ⟨s3, e3, _, _⟩ := DataW.trod_int Try.underlying3 h1
        obtain ⟨s4, e4, _, _⟩ := DataW.trod_int Try.underlying3 h2
        obtain ⟨s5, e5, _, _⟩ := DataW.trod_int Try.underlying3 h3
        obtain ⟨s6, e6, _, _⟩ := DataW.trod_int Try.underlying3 h4
        refine ⟨s0, s1, s2, s3, s4, s5, s6, ?_⟩
        simp [Value.cells] at e0 e1 e2 e3 e4 e5 e6
        rw [e0, e1, e2, e3, e4, e5, e6]
end Go.Proofs.Ytdibolblgchpdaa.Rd
