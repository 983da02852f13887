/- Contract: does, of both, for every Kind of call; SchedPlays, its walk; rows of calls that are arguments. -/
import Derived.Test.YtompgphlinjglaaS34
import Derived.Test.YtompgphlinjglaaS36
import Derived.Test.YtompgphlinjglaaRdS
namespace Go.Proofs.Ytompgphlinjglaa.P
open Go.RowKit Go.Proofs.YtompgphlinjglaaW.PrintWords Go.Proofs.YtompgphlinjglaaW.PrintLast Go.Proofs.YtompgphlinjglaaW.PrintMore
attribute [local go_sem] Oper.semAt_some
set_option linter.unusedVariables false
set_option linter.unusedSimpArgs false

section
variable {k B : Nat} {w w0 : World} {g0 : Nat → Tag} {q pl pr : Nat} {S : LS}
set_option maxHeartbeats 8000000 in
set_option maxRecDepth 100000 in
theorem doesLooks_calls (h : Cu k g0 w0 q pl pr S S w) (hg : Good B S) (m : Int) (h1 : m ≠ 1) (h2 : m ≠ 2) (h3 : m ≠ 3) (h4 : m ≠ 4) (h5 : m ≠ 5) (n : Int) (A : Option Addr) (len c : Nat) :
    Calls Try.prog 20 #[.pointer (some ⟨q, 0, none⟩), .agg #[.int .i64 m, .int .i64 n, .slice A len c]] w fun e w' => e = .returned (.bool true) ∧ DoPost k g0 w0 q (B + 1000) w' := by
  have HC := Aside0.mk (h.alloc (.cells #[.int .i64 m, .int .i64 n, .slice A len c] 54))
  have HL := Aside0.mk (looks_calls HC.out hg)
  have HG2 := Aside0.mk (good_up hg (show B ≤ B + 1000 by omega))
  have b0 := (blkc (blk_new w (.cells #[.int .i64 m, .int .i64 n, .slice A len c] 54)) 0 rfl).1
  have e1 : (m == 1) = false := beq_eq_false_iff_ne.mpr h1
  have e2 : (m == 2) = false := beq_eq_false_iff_ne.mpr h2
  have e3 : (m == 3) = false := beq_eq_false_iff_ne.mpr h3
  have e4 : (m == 4) = false := beq_eq_false_iff_ne.mpr h4
  have e5 : (m == 5) = false := beq_eq_false_iff_ne.mpr h5
  clear h hg h1 h2 h3 h4 h5
  go_enter Try.func20, Try.ntmps20
  go_wp2_with (go_at_call 21; refine HL.out.mono ?_; rintro e w5 ⟨rfl, h5⟩; have HC5 := Aside0.mk h5; clear h5)
  go_ret
  exact ⟨rfl, pl, pr, _, HC5.out, HG2.out⟩
/-- Every call. -/
theorem does_calls (h : Cu k g0 w0 q pl pr S S w) (hg : Good B S) (hB : B ≤ 1152921504606840000) (m n : Int) {A : Option Addr} {c : Nat} {acts : List (Int × Int)} (hA : Dat kAct w0 g0 A acts.length acts) (hc : acts.length ≤ c) (hl : acts.length ≤ 8796093022208) :
    Calls Try.prog 20 #[.pointer (some ⟨q, 0, none⟩), .agg #[.int .i64 m, .int .i64 n, .slice A acts.length c]] w fun e w' => e = .returned (.bool true) ∧ DoPost k g0 w0 q (B + 1000) w' := by
  by_cases h1 : m = 1
  · subst h1; exact doesStep_calls h hg hB n A _ c
  by_cases h2 : m = 2
  · subst h2; exact doesNext_calls h hg hB n A _ c
  by_cases h3 : m = 3
  · subst h3; exact doesRun_calls h hg hB n A _ c
  by_cases h4 : m = 4
  · subst h4; exact doesWake_calls h hg hB n A _ c
  by_cases h5 : m = 5
  · subst h5; exact doesAdd_calls h hg n hA hc hl
  · exact doesLooks_calls h hg m h1 h2 h3 h4 h5 n A _ c
end
end Go.Proofs.Ytompgphlinjglaa.P
namespace Go.Proofs.Ytompgphlinjglaa.P
open Go.RowKit Go.Proofs.YtompgphlinjglaaW.PrintWords Go.Proofs.YtompgphlinjglaaW.PrintLast Go.Proofs.YtompgphlinjglaaW.PrintMore
attribute [local go_sem] Oper.semAt_some
set_option linter.unusedVariables false
set_option linter.unusedSimpArgs false

def kOp : Kd (Int × Int × List (Int × Int)) := Kd.pair (Kd.int .i64) (Kd.pair (Kd.int .i64) kActs)
theorem at_op {w : World} {A : Option Addr} {n : Nat} {xs : List (Int × Int × List (Int × Int))} (h : kOp.C w A n xs) (i : Nat) (h1 : i < n) :
    ∃ ad A1 c1, A = some ad ∧ w.cell? (ad.add (i * 3)) = some (.int .i64 (xs.getD i (0, 0, [])).1) ∧ w.cell? ⟨(ad.add (i * 3)).block, (ad.add (i * 3)).off + 1, none⟩ = some (.int .i64 (xs.getD i (0, 0, [])).2.1) ∧ w.cell? ⟨(ad.add (i * 3)).block, (ad.add (i * 3)).off + 2, none⟩ = some (.slice A1 (xs.getD i (0, 0, [])).2.2.length c1) ∧ (xs.getD i (0, 0, [])).2.2.length ≤ c1 ∧ kAct.C w A1 (xs.getD i (0, 0, [])).2.2.length (xs.getD i (0, 0, [])).2.2 := by
  obtain ⟨ad, c, e, _, hK, hc0⟩ := Kd.C_get h (0, 0, []) (i : Int) (Int.natCast_nonneg _) (by omega)
  rw [Int.toNat_natCast] at hK hc0
  have hc : ∀ j u, c[j]? = some u → w.cell? (ad.add (i * 3 + j)) = some u := hc0
  obtain ⟨ca, cb, rfl, ha, c1, c2, rfl, hb, A1, cc, rfl, hl, hC⟩ := hK
  obtain rfl := ha
  obtain rfl := hb
  exact ⟨ad, A1, cc, e, hc 0 _ rfl, by rw [← add_field _ _ 1 (by omega)]; exact hc 1 _ rfl, by rw [← add_field _ _ 2 (by omega)]; exact hc 2 _ rfl, hl, hC⟩
set_option maxHeartbeats 8000000 in
set_option maxRecDepth 100000 in
theorem schedPlaysNot_calls (A0 : Option Addr) (c0 : Nat) (l0 : List Int) (A1 : Option Addr) (c1 : Nat) (l1 : List Int) (A2 : Option Addr) (c2 : Nat) (l2 : List Int) (B : Option Addr) (n cb : Nat) (D : Option Addr) (m cd : Nat) (w : World) (h0 : Kd.C (Kd.int .i64) w A0 l0.length l0) (hc0 : l0.length ≤ c0) (h1 : Kd.C (Kd.int .i64) w A1 l1.length l1) (hc1 : l1.length ≤ c1) (h2 : Kd.C (Kd.int .u64) w A2 l2.length l2) (hc2 : l2.length ≤ c2) (hk : checkF l0 l1 l2 ≠ 0) :
    Calls Try.prog 6 #[.agg #[.slice A0 l0.length c0, .slice A1 l1.length c1, .slice A2 l2.length c2], .slice B n cb, .slice D m cd] w fun e w' => e = .returned (.bool true) ∧ Below w.heap.size w w' := by
  have HB := Aside0.mk (below_alloc (Below.refl w.heap.size w) (.cells #[.slice A0 l0.length c0, .slice A1 l1.length c1, .slice A2 l2.length c2] 28))
  have HN := Aside0.mk (fun (W : World) (hb : Below w.heap.size w W) => startNot_calls A0 c0 l0 A1 c1 l1 A2 c2 l2 W (Kd.C_below h0 hb) hc0 (Kd.C_below h1 hb) hc1 (Kd.C_below h2 hb) hc2 hk)
  clear h0 h1 h2 hc0 hc1 hc2 hk
  go_enter Try.func6, Try.ntmps6
  go_wp2_with (go_at_call 9; refine (HN.out _ HB.out).mono ?_; rintro e w1 ⟨rfl, hb⟩; have HB1 := Aside0.mk (below_step HB.out hb); clear hb)
  go_ret
  exact ⟨rfl, HB1.out⟩
set_option maxHeartbeats 8000000 in
set_option maxRecDepth 100000 in
theorem schedPlays_calls (A0 : Option Addr) (c0 : Nat) (l0 : List Int) (A1 : Option Addr) (c1 : Nat) (l1 : List Int) (A2 : Option Addr) (c2 : Nat) (l2 : List Int) (B : Option Addr) (cb : Nat) (xs : List (List (Int × Int))) (D : Option Addr) (cd : Nat) (ys : List (Int × Int × List (Int × Int))) (w : World) (h0 : Kd.C (Kd.int .i64) w A0 l0.length l0) (hc0 : l0.length ≤ c0) (h1 : Kd.C (Kd.int .i64) w A1 l1.length l1) (hc1 : l1.length ≤ c1) (h2 : Kd.C (Kd.int .u64) w A2 l2.length l2) (hc2 : l2.length ≤ c2) (hk : checkF l0 l1 l2 = 0) (hlen : l0.length ≤ 65536 ∧ l1.length ≤ 65536 ∧ l2.length ≤ 65536) (hB : Kd.C kActs w B xs.length xs) (hcb : xs.length ≤ cb) (hl : ∀ x ∈ xs, x.length ≤ 8796093022208)
    (hD : Kd.C kOp w D ys.length ys) (hcd : ys.length ≤ cd) (hlo : ∀ y ∈ ys, y.2.2.length ≤ 8796093022208) (hly : ys.length ≤ 8796093022208) :
    Calls Try.prog 6 #[.agg #[.slice A0 l0.length c0, .slice A1 l1.length c1, .slice A2 l2.length c2], .slice B xs.length cb, .slice D ys.length cd] w fun e w' => e = .returned (.bool true) ∧ Below w.heap.size w w' := by
  have HB := Aside0.mk (below_alloc (Below.refl w.heap.size w) (.cells #[.slice A0 l0.length c0, .slice A1 l1.length c1, .slice A2 l2.length c2] 28))
  have D0 := Aside0.mk (fun (W : World) (hb : Below w.heap.size w W) => dat_arg (Kd.heap_int _) (Kd.C_below h0 hb))
  have D1 := Aside0.mk (fun (W : World) (hb : Below w.heap.size w W) => dat_arg (Kd.heap_int _) (Kd.C_below h1 hb))
  have D2 := Aside0.mk (fun (W : World) (hb : Below w.heap.size w W) => dat_arg (Kd.heap_int _) (Kd.C_below h2 hb))
  have HXS := Aside0.mk hB
  have HXL := Aside0.mk hl
  have HYS := Aside0.mk hD
  have HYL := Aside0.mk hlo
  have HYN := Aside0.mk hly
  have HN := Aside0.mk (fun (W : World) (hb : Below w.heap.size w W) => start_calls 0 gData A0 c0 l0 A1 c1 l1 A2 c2 l2 W (D0.out W hb) hc0 (D1.out W hb) hc1 (D2.out W hb) hc2 hk hlen)
  have HG := Aside0.mk (show Good 0 (S0 l0 l1 l2) from ⟨by show 0 ≤ 64; omega, fun t ht => absurd ht (by simp [S0]), Nat.le_refl _, Nat.le_refl _, hlen.1, hlen.2.1, hlen.2.2, Nat.zero_le _⟩)
  clear h0 h1 h2 hc0 hc1 hc2 hk hB hcb hl hlen hD hcd hlo hly
  go_enter Try.func6, Try.ntmps6
  go_upto_region 2 with (go_at_call 9; refine (HN.out _ HB.out).mono ?_; rintro e w1 ⟨q, rfl, hb, g1, he, hbo⟩; obtain ⟨pl, pr, hcu⟩ := Cu.of_both he hb hbo; have HC1 := Aside0.mk hcu; clear hb he hbo hcu)
  clear HN D0 D1 D2
  generalize hw0 : w.alloc (.cells #[.slice A0 l0.length c0, .slice A1 l1.length c1, .slice A2 l2.length c2] 28) = w0 at HC1 HB
  clear hw0
  have HX0 := Aside0.mk (Kd.C_below HXS.out HB.out)
  have HY0 := Aside0.mk (Kd.C_below HYS.out HB.out)
  go_wp2
  go_loopg [9] xs.length (fun kq v9 w' => ∃ (i pl pr : Nat) (S : LS), v9 = .int .i64 i ∧ i ≤ xs.length ∧ Aside0 (kq = xs.length - i) ∧ Aside0 (Good 0 S) ∧ Aside0 (Cu 0 gData w0 q pl pr S S w'))
  case atStart => exact ⟨0, _, _, _, rfl, Nat.zero_le _, ⟨rfl⟩, HG, HC1⟩
  case round =>
    clear HG HC1
    obtain ⟨i, pl3, pr3, S, rfl, hi, HK, HG, HC⟩ := hrel
    have hxm : xs.length ≤ 9223372036854775807 := HX0.out.2.1
    by_cases hlt : i < xs.length
    · obtain ⟨k1, rfl⟩ : ∃ k1, gk = k1 + 1 := ⟨gk - 1, by have := HK.out; omega⟩
      have HK1 := Aside0.mk (show k1 = xs.length - (i + 1) by have := HK.out; omega)
      obtain ⟨ad, A9, c9, e9, z9, hl9, hC9⟩ := at_acts HX0.out i hlt
      have hx9 := HXL.out (xs.getD i []) (by rw [List.getD_eq_getElem?_getD, List.getElem?_eq_getElem hlt]; exact List.getElem_mem hlt)
      cases e9
      obtain ⟨l, hl⟩ : ∃ l, xs.getD i [] = l := ⟨_, rfl⟩
      rw [hl] at z9 hl9 hC9 hx9
      clear hl HK
      have y0 := pw_cell_below HC.out.fin z9
      have HA1 := Aside0.mk (HC.out.add (dat_arg heap_act hC9) hl9 hx9 HG.out.tasks)
      have HG2 := Aside0.mk (good_add HG.out hx9)
      clear z9 hl9 hC9 hx9
      go_wp2_with (go_at_call 10; refine HA1.out.mono ?_; rintro e w5 ⟨rfl, pl5, pr5, h5⟩; have HC5 := Aside0.mk h5; clear h5)
      go_roundg k1
      case measure => omega
      case rel => exact ⟨i + 1, _, _, _, by first | rfl | (congr 1; omega) | (simp; done), hlt, HK1, HG2, HC5⟩
    · obtain rfl : i = xs.length := by omega
      clear HK
      have hym : ys.length ≤ 9223372036854775807 := HY0.out.2.1
      go_wp2
      go_loopg [10] ys.length (fun kq v10 w' => ∃ (j pl pr : Nat) (T : LS), v10 = .int .i64 j ∧ j ≤ ys.length ∧ Aside0 (kq = ys.length - j) ∧ Aside0 (Good (1000 * j) T) ∧ Aside0 (Cu 0 gData w0 q pl pr T T w'))
      case atStart => exact ⟨0, _, _, _, rfl, Nat.zero_le _, ⟨rfl⟩, HG, HC⟩
      case round =>
        clear HG HC
        obtain ⟨j, pl4, pr4, T, rfl, hj, HK, HG, HC⟩ := hrel
        by_cases hjl : j < ys.length
        · obtain ⟨k1, rfl⟩ : ∃ k1, gk = k1 + 1 := ⟨gk - 1, by have := HK.out; omega⟩
          have HK1 := Aside0.mk (show k1 = ys.length - (j + 1) by have := HK.out; omega)
          obtain ⟨ad, A9, c9, e9, z0, z1, z2, hl9, hC9⟩ := at_op HY0.out j hjl
          have hx9 := HYL.out (ys.getD j (0, 0, [])) (by rw [List.getD_eq_getElem?_getD, List.getElem?_eq_getElem hjl]; exact List.getElem_mem hjl)
          cases e9
          obtain ⟨⟨m, n, l⟩, hl⟩ : ∃ l, ys.getD j (0, 0, []) = l := ⟨_, rfl⟩
          rw [hl] at z0 z1 z2 hl9 hC9 hx9
          clear hl HK
          have y0 := pw_cell_below HC.out.fin z0
          have y1 := pw_cell_below HC.out.fin z1
          have y2 := pw_cell_below HC.out.fin z2
          have HD1 := Aside0.mk (does_calls HC.out HG.out (by have := HYN.out; omega) m n (dat_arg heap_act hC9) hl9 hx9)
          clear z0 z1 z2 hl9 hC9 hx9
          go_wp2_with (go_at_call 20; refine HD1.out.mono ?_; rintro e w5 ⟨rfl, pl5, pr5, T5, h5, g5⟩; have HC5 := Aside0.mk h5; have HG5 := Aside0.mk g5; clear h5 g5)
          go_roundg k1
          case measure => omega
          case rel => exact ⟨j + 1, _, _, _, by first | rfl | (congr 1; omega) | (simp; done), hjl, HK1, ⟨good_up HG5.out (by omega)⟩, HC5⟩
        · obtain rfl : j = ys.length := by omega
          have HL := Aside0.mk (looks_calls HC.out HG.out)
          clear HK
          go_wp2_with (go_at_call 21; refine HL.out.mono ?_; rintro e w5 ⟨rfl, h5⟩; have HC5 := Aside0.mk h5; clear h5)
          go_ret
          exact ⟨rfl, below_step HB.out HC5.out.fin⟩
theorem plays_len {l0 l1 l2 : List Int} (hk : checkF l0 l1 l2 = 0) : l0.length ≤ 65536 ∧ l1.length ≤ 65536 ∧ l2.length ≤ 65536 := by
  unfold checkF at hk
  by_cases hh : 65536 < l0.length ∨ 65536 < l1.length ∨ 65536 < l2.length
  · rw [if_pos hh] at hk; exact absurd hk (by decide)
  · omega
theorem schedPlays_any (A0 : Option Addr) (c0 : Nat) (l0 : List Int) (A1 : Option Addr) (c1 : Nat) (l1 : List Int) (A2 : Option Addr) (c2 : Nat) (l2 : List Int) (B : Option Addr) (cb : Nat) (xs : List (List (Int × Int))) (D : Option Addr) (cd : Nat) (ys : List (Int × Int × List (Int × Int))) (w : World) (h0 : Kd.C (Kd.int .i64) w A0 l0.length l0) (hc0 : l0.length ≤ c0) (h1 : Kd.C (Kd.int .i64) w A1 l1.length l1) (hc1 : l1.length ≤ c1) (h2 : Kd.C (Kd.int .u64) w A2 l2.length l2) (hc2 : l2.length ≤ c2) (hB : Kd.C kActs w B xs.length xs) (hcb : xs.length ≤ cb) (hl : ∀ x ∈ xs, x.length ≤ 8796093022208)
    (hD : Kd.C kOp w D ys.length ys) (hcd : ys.length ≤ cd) (hlo : ∀ y ∈ ys, y.2.2.length ≤ 8796093022208) (hly : ys.length ≤ 8796093022208) :
    Calls Try.prog 6 #[.agg #[.slice A0 l0.length c0, .slice A1 l1.length c1, .slice A2 l2.length c2], .slice B xs.length cb, .slice D ys.length cd] w fun e w' => e = .returned (.bool true) ∧ Below w.heap.size w w' := by
  by_cases hk : checkF l0 l1 l2 = 0
  · exact schedPlays_calls A0 c0 l0 A1 c1 l1 A2 c2 l2 B cb xs D cd ys w h0 hc0 h1 hc1 h2 hc2 hk (plays_len hk) hB hcb hl hD hcd hlo hly
  · exact schedPlaysNot_calls A0 c0 l0 A1 c1 l1 A2 c2 l2 B _ cb D _ cd w h0 hc0 h1 hc1 h2 hc2 hk
end Go.Proofs.Ytompgphlinjglaa.P
namespace Go.Proofs.Ytompgphlinjglaa.Rd
open Go.RowKit Go.WideShapes Go.ChangeShapes Go.Joins Go.Deep Go.Proofs.YtompgphlinjglaaW.PrintWords Go.Proofs.Ytompgphlinjglaa.P
set_option linter.unusedVariables false
set_option linter.unusedSimpArgs false

theorem three_parts {cs : List Value} {a b c : Value} (hl : cs.length = 3) (h0 : (cs.drop 0).take 1 = [a]) (h1 : (cs.drop 1).take 1 = [b]) (h2 : (cs.drop 2).take 1 = [c]) : cs = [a, b, c] := by
  match cs, hl with
  | [w, x, y], _ =>
    simp at h0 h1 h2
    simp [h0, h1, h2]
theorem rds_T54 : Rds Try.prog 54 kOp (fun x => x.2.2.length * 16 ≤ 140737488351232) := by
  intro H enc w base spare held fuel cs x h hz
  obtain ⟨y0, y1, y2, n, hx, hl, h0, h1, h2⟩ := trod_struct3 Try.underlying54 h
  subst hx
  have hw : ∀ m, (m ∈ y0.1.weights Try.prog 3 ∨ m ∈ y1.1.weights Try.prog 3 ∨ m ∈ y2.1.weights Try.prog 32) → m ≤ 140737488351232 := by
    intro m hm
    refine hz m ?_
    simp only [DataW.weights, Try.underlying54, List.map_cons, List.map_nil, DataW.weightsEach, List.mem_append, List.append_nil]
    rcases hm with hm | hm | hm <;> simp [hm]
  obtain ⟨s0, e0, b0⟩ := rds_int Try.underlying3 H enc w base spare held n _ _ h0 (fun m hm => hw m (.inl hm))
  obtain ⟨s1, e1, b1⟩ := rds_int Try.underlying3 H enc w base spare held n _ _ h1 (fun m hm => hw m (.inr (.inl hm)))
  obtain ⟨s2, ⟨A2, c2, e2, L2, C2⟩, b2⟩ := rds_T32 H enc w base spare held n _ _ h2 (fun m hm => hw m (.inr (.inr hm)))
  have hl' : cs.length = 3 := hl.trans (by kernel_rfl)
  have c3 : Try.prog.cellsOf 3 = 1 := by kernel_rfl
  have c32 : Try.prog.cellsOf 32 = 1 := by kernel_rfl
  simp only [c3, c32] at e0 e1 e2
  have hcs := three_parts hl' e0 e1 e2
  subst hcs
  exact ⟨(s0, s1, s2), ⟨[.int .i64 s0], [.int .i64 s1, .slice A2 s2.length c2], rfl, rfl, [.int .i64 s1], [.slice A2 s2.length c2], rfl, rfl, A2, c2, rfl, L2, C2⟩, b2.2⟩
theorem rds_T51 : Rds Try.prog 51 (Kd.slice 54 kOp) (fun xs => (∀ x ∈ xs, x.2.2.length * 16 ≤ 140737488351232) ∧ xs.length * 40 ≤ 140737488351232) := Rd.rds_slice 40 Try.underlying51 (by kernel_rfl) (by kernel_rfl) rds_T54
end Go.Proofs.Ytompgphlinjglaa.Rd
