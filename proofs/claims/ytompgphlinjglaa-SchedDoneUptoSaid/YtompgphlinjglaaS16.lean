/- Contracts: the reference's Ready, Done, Wake, draw. -/
import Derived.Test.YtompgphlinjglaaS5
import Derived.Test.YtompgphlinjglaaS9
import Derived.Test.YtompgphlinjglaaS14
namespace Go.Proofs.Ytompgphlinjglaa.P
open Go.RowKit Go.Proofs.YtompgphlinjglaaW.PrintWords Go.Proofs.YtompgphlinjglaaW.PrintLast Go.Proofs.YtompgphlinjglaaW.PrintMore
attribute [local go_sem] Oper.semAt_some
set_option linter.unusedVariables false
set_option linter.unusedSimpArgs false

section
variable {k : Nat} {w w1 : World} {g g1 : Nat → Tag} {p : Nat} {S : LS} {A0 : Option Addr} {c0 : Nat} {A1 : Option Addr} {c1 : Nat} {A2 : Option Addr} {c2 : Nat} {At : Option Addr} {ct : Nat} {bs : List Nat}
theorem RefAt.move {T : Tag → Prop} (h : RefAt k w g p S A0 c0 A1 c1 A2 c2 At ct bs) (ho : Only T g w w1) (he : Ext w.heap.size g g1) (h0 : ¬ T .data) (h1 : ∀ t, TR k t → ¬ T t) : RefAt k w1 g1 p S A0 c0 A1 c1 A2 c2 At ct bs :=
  ⟨ho.blk h.blk (by rw [h.tag]; exact h1 _ rfl), h.l0, h.l1, h.l2, h.picks.move ho he h0, h.ticks.move ho he h0, h.draws.move ho he h0,
    h.tasks.move rfl ho he (h1 _ rfl), fun i hi => (h.each i hi).move ho he h0 (h1 _ rfl) (h1 _ rfl), (he p (blk_lt h.blk)).trans h.tag⟩
theorem RefAt.below (h : RefAt k w g p S A0 c0 A1 c1 A2 c2 At ct bs) (hb : Below w.heap.size w w1) : RefAt k w1 g p S A0 c0 A1 c1 A2 c2 At ct bs := h.move (Only.of_below hb (fun _ => False) g) (Ext.refl _ _) (fun h => h) (fun _ _ h => h)
theorem RefAt.cells {gt : Nat} (h : RefAt k w g p S A0 c0 A1 c1 A2 c2 (some ⟨gt, 0, none⟩) ct bs) {m n : Nat} (hm : S.tasks.length = m) (hn : n < m) :
    w.cell? ⟨p, 3, none⟩ = some (.slice (some ⟨gt, 0, none⟩) m ct) ∧ w.cell? ⟨gt, n, none⟩ = some (.pointer (some ⟨bs.getD n 0, 0, none⟩)) ∧ w.cell? ⟨bs.getD n 0, 2, none⟩ = some (.int .i64 (taskF S n).wait) ∧ w.frozen? ⟨bs.getD n 0, 2, none⟩ = false := by
  subst hm
  obtain ⟨A, c, v, ha⟩ := h.each n hn
  refine ⟨(blk_cell h.blk 3).trans rfl, ?_, (blkc ha.blk 2 rfl).1, (blkc ha.blk 2 rfl).2⟩
  have := (Kd.R_celln (enc := fun b : Nat => .pointer (some ⟨b, 0, none⟩)) (h1 := fun _ => rfl) 0 h.tasks.1 (n : Int) (Int.natCast_nonneg _) (by omega)).1
  rw [Int.toNat_natCast] at this
  rw [this]
  simp [rdOf]
theorem RefAt.form (h : RefAt k w g p S A0 c0 A1 c1 A2 c2 At ct bs) (hn : 0 < S.tasks.length) : ∃ gt, At = some ⟨gt, 0, none⟩ := by
  obtain ⟨gt, qt, ev, _, _, _⟩ := Kd.R_form h.tasks.1 (by have := (Kd.R_reads' h.tasks.1).1; omega)
  exact ⟨gt, by injection ev⟩
set_option maxHeartbeats 4000000 in
set_option maxRecDepth 100000 in
theorem rready_calls (h : RefIs k w g p S) (hn : S.tasks.length ≤ 64) : Calls Try.prog 43 #[.pointer (some ⟨p, 0, none⟩)] w fun e w' => ∃ v, e = .returned v ∧ Kd.R (Kd.int .i64) 3 w' w.heap.size (fun _ => True) v (readyF S) ∧ Below w.heap.size w w' := by
  obtain ⟨A0, c0, A1, c1, A2, c2, At, ct, bs, h⟩ := h
  have HH := Aside0.mk h
  unfold readyF readyW
  have HWG := Aside0.mk (waitsF_get S)
  have HWL := Aside0.mk (waitsF_len S)
  rw [waitsF_len]
  have c3 := (blkc h.blk 3 rfl).1
  have C3 := Aside0.mk (fun (w1 : World) (hb : Below w.heap.size w w1) => (blkc (h.below hb).blk 3 rfl).1)
  generalize hws : waitsF S = ws at *
  have hnl : ∃ n, S.tasks.length = n := ⟨_, rfl⟩
  obtain ⟨n, hnn⟩ := hnl
  have HNN := Aside0.mk hnn
  rw [hnn] at hn C3 c3 HWL ⊢
  clear h hws hnn
  go_enter Try.func43, Try.ntmps43
  go_wp2
  go_loopg [3, 4] n (fun kq v3 v4 w' => ∃ (i : Nat) (u : Value), u = v3 ∧ v4 = .int .i64 i ∧ i ≤ n ∧ Aside0 (kq = n - i) ∧ Aside0 (Kd.R (Kd.int .i64) 3 w' w.heap.size (fun _ => True) u (readyTo ws i)) ∧ Aside0 (Below w.heap.size w w'))
  case atStart => exact ⟨0, _, rfl, rfl, Nat.zero_le _, ⟨rfl⟩, ⟨Kd.R_nil _ _ _ _ _⟩, ⟨Below.refl _ _⟩⟩
  case round =>
    clear c3
    obtain ⟨i, v3, rfl, rfl, hi, HK, HR, HB⟩ := hrel
    have c3 := C3.out _ HB.out
    by_cases hlt : i < n
    · obtain ⟨k1, rfl⟩ : ∃ k1, gk = k1 + 1 := ⟨gk - 1, by have := HK.out; omega⟩
      have HK1 := Aside0.mk (show k1 = n - (i + 1) by have := HK.out; omega)
      obtain ⟨gt, e1⟩ := HH.out.form (by rw [HNN.out]; omega)
      subst e1
      obtain ⟨_, x1, x2, _⟩ := (HH.out.below HB.out).cells HNN.out hlt
      obtain ⟨x, hxe⟩ : ∃ x, (taskF S i).wait = x := ⟨_, rfl⟩
      rw [hxe] at x2
      obtain ⟨bi, hbi⟩ : ∃ bi, bs.getD i 0 = bi := ⟨_, rfl⟩
      rw [hbi] at x1 x2
      clear hbi
      have HX := Aside0.mk (show ws.getD i 0 = x by rw [HWG.out, if_pos (by rw [HNN.out]; exact hlt), hxe])
      clear HK hxe
      by_cases h0 : x = 0
      · have hb : (x == 0) = true := by simp [h0]
        have HL := Aside0.mk (readyTo_len ws i)
        have HE := Aside0.mk (readyTo_yes ws i (HX.out.trans h0))
        clear h0
        go_wp2_with ((with_reducible refine gate_builtin (b := .append) (xs := #[.tmp 25, .tmp 27]) rfl ?_); at_builtin; refine Kd.R_append (Kd.int .i64) (w0 := w) w.heap.size rfl (.tmp 25) (.tmp 27) 22 3 (.int .i64 0) 8 rfl Try.underlying22 info3 rfl (by decide) (by omega) v3 (readyTo ws i) (i : Int) [.int .i64 (i : Int)] (fun _ => True) (fun _ => False) rfl rfl rfl (fun _ h => h.elim) (fun _ _ => trivial) HR.out HB.out (below_size HB.out) (by have := HL.out; omega) ?_; intro v2 w2 ho2 hb2 hg2 hat2; clear hg2 hat2; rw [← HE.out] at ho2; have HO2 := Aside0.mk ho2; have HB2 := Aside0.mk hb2; clear ho2 hb2)
        go_roundg k1
        case measure => omega
        case rel => exact ⟨i + 1, v2, rfl, by first | rfl | (congr 1; omega) | (simp; done), hlt, HK1, HO2, HB2⟩
      · have hb : (x == 0) = false := by simp [h0]
        have HE := Aside0.mk (readyTo_no ws i (by rw [HX.out]; exact h0))
        clear h0
        go_wp2
        go_roundg k1
        case measure => omega
        case rel => exact ⟨i + 1, v3, rfl, by first | rfl | (congr 1; omega) | (simp; done), hlt, HK1, ⟨by rw [HE.out]; exact HR.out⟩, HB⟩
    · obtain rfl : i = n := by omega
      go_wp2
      go_ret
      exact ⟨_, rfl, HR.out, HB.out⟩
def rdoneF (S : LS) : Bool := (waitsF S).all fun x => decide (x < 0)
theorem rdone_eq {B : Nat} (h : Good B S) : rdoneF S = !(waitsF S).any p38 := by
  unfold rdoneF
  rw [List.not_any_eq_all_not, Bool.eq_iff_iff, List.all_eq_true, List.all_eq_true]
  have hw : ∀ x ∈ waitsF S, -1 ≤ x := fun x hx => by
    obtain ⟨t, ht, rfl⟩ := List.mem_map.1 hx
    exact (h.each t ht).2.2.2
  constructor
  · intro hh x hx
    have h1 := hh x hx
    have h2 := hw x hx
    simp [p38] at h1 ⊢
    omega
  · intro hh x hx
    have h1 := hh x hx
    have h2 := hw x hx
    simp [p38] at h1 ⊢
    omega
set_option maxHeartbeats 4000000 in
set_option maxRecDepth 100000 in
theorem rdone_calls (h : RefIs k w g p S) (hn : S.tasks.length ≤ 64) : Calls Try.prog 44 #[.pointer (some ⟨p, 0, none⟩)] w fun e w' => e = .returned (.bool (rdoneF S)) ∧ w = w' := by
  obtain ⟨A0, c0, A1, c1, A2, c2, At, ct, bs, h⟩ := h
  have HH := Aside0.mk h
  have HWG := Aside0.mk (waitsF_get S)
  have HWL := Aside0.mk (waitsF_len S)
  have c3 := (blkc h.blk 3 rfl).1
  have hnl : ∃ n, S.tasks.length = n := ⟨_, rfl⟩
  obtain ⟨n, hnn⟩ := hnl
  have HNN := Aside0.mk hnn
  rw [hnn] at hn c3 HWL
  clear h hnn
  go_enter Try.func44, Try.ntmps44
  go_wp2
  go_loopg [3] n (fun kq v3 w' => ∃ (i : Nat), v3 = .int .i64 i ∧ i ≤ n ∧ Aside0 (kq = n - i) ∧ Aside0 (((waitsF S).take i).all (fun x => decide (x < 0)) = true) ∧ w = w')
  case atStart => exact ⟨0, rfl, Nat.zero_le _, ⟨rfl⟩, ⟨by simp⟩, rfl⟩
  case round =>
    obtain ⟨i, rfl, hi, HK, HA, rfl⟩ := hrel
    by_cases hlt : i < n
    · obtain ⟨k1, rfl⟩ : ∃ k1, gk = k1 + 1 := ⟨gk - 1, by have := HK.out; omega⟩
      have HK1 := Aside0.mk (show k1 = n - (i + 1) by have := HK.out; omega)
      obtain ⟨gt, e1⟩ := HH.out.form (by rw [HNN.out]; omega)
      subst e1
      obtain ⟨_, x1, x2, _⟩ := HH.out.cells HNN.out hlt
      obtain ⟨x, hxe⟩ : ∃ x, (taskF S i).wait = x := ⟨_, rfl⟩
      rw [hxe] at x2
      obtain ⟨bi, hbi⟩ : ∃ bi, bs.getD i 0 = bi := ⟨_, rfl⟩
      rw [hbi] at x1 x2
      clear hbi
      have hwi : i < (waitsF S).length := by rw [HWL.out]; exact hlt
      have HX := Aside0.mk (show (waitsF S)[i] = x by
        have e1 := HWG.out i
        rw [if_pos (by rw [HNN.out]; exact hlt), hxe] at e1
        simpa [List.getD_eq_getElem?_getD, hwi] using e1)
      clear HK hxe
      by_cases h0 : 0 ≤ x
      · have hb : decide (0 ≤ x) = true := decide_eq_true h0
        have HE := Aside0.mk (show rdoneF S = false by
          unfold rdoneF
          rw [List.all_eq_false]
          exact ⟨(waitsF S)[i], List.getElem_mem hwi, by rw [HX.out]; simp; omega⟩)
        clear h0
        go_wp2
        go_ret
        exact ⟨by rw [HE.out]; rfl, rfl⟩
      · have hb : decide (0 ≤ x) = false := decide_eq_false h0
        have HE := Aside0.mk (show ((waitsF S).take (i + 1)).all (fun x => decide (x < 0)) = true by
          rw [List.take_succ_eq_append_getElem hwi, List.all_append, HA.out, HX.out]
          simp; omega)
        clear h0
        go_wp2
        go_roundg k1
        case measure => omega
        case rel => exact ⟨i + 1, by first | rfl | (congr 1; omega) | (simp; done), hlt, HK1, HE, rfl⟩
    · obtain rfl : i = n := by omega
      have HE := Aside0.mk (show rdoneF S = true by
        unfold rdoneF
        have := HA.out
        rw [← HWL.out, List.take_length] at this
        exact this)
      go_wp2
      go_ret
      exact ⟨by rw [HE.out]; rfl, rfl⟩
end
end Go.Proofs.Ytompgphlinjglaa.P
