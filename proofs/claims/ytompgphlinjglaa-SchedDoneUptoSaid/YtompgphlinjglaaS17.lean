/- Contracts: the reference's Wake, draw. -/
import Derived.Test.YtompgphlinjglaaS16
namespace Go.Proofs.Ytompgphlinjglaa.P
open Go.RowKit Go.Proofs.YtompgphlinjglaaW.PrintWords Go.Proofs.YtompgphlinjglaaW.PrintLast Go.Proofs.YtompgphlinjglaaW.PrintMore
attribute [local go_sem] Oper.semAt_some
set_option linter.unusedVariables false
set_option linter.unusedSimpArgs false

section
variable {k : Nat} {w w1 : World} {g g1 : Nat → Tag} {p : Nat} {S : LS} {A0 : Option Addr} {c0 : Nat} {A1 : Option Addr} {c1 : Nat} {A2 : Option Addr} {c2 : Nat} {At : Option Addr} {ct : Nat} {bs : List Nat}
/-- The tags of the reference's tasks. -/
def TRA (k : Nat) : Tag → Prop
  | .ract j _ => j = k
  | _ => False
theorem RefAt.setW (h : RefAt k w g p S A0 c0 A1 c1 A2 c2 At ct bs) {n : Nat} (hn : n < S.tasks.length) (x : Int) :
    RefAt k (w.setCell ⟨bs.getD n 0, 2, none⟩ (.int .i64 x)) g p (setWait S n x) A0 c0 A1 c1 A2 c2 At ct bs ∧ Only (TRA k) g w (w.setCell ⟨bs.getD n 0, 2, none⟩ (.int .i64 x)) := by
  obtain ⟨A, c, v, ha⟩ := h.each n hn
  have ho := (Only.refl (fun t => t = Tag.ract k n) g w).setCell (p := ⟨bs.getD n 0, 2, none⟩) (.inl ha.tag) (.int .i64 x)
  have hx := Ext.refl w.heap.size g
  have hl : (setWait S n x).tasks.length = S.tasks.length := List.length_set
  refine ⟨⟨?_, h.l0, h.l1, h.l2, h.picks.move ho hx (by simp), h.ticks.move ho hx (by simp), h.draws.move ho hx (by simp), ?_, fun j hj => ?_, h.tag⟩, ho.mono (fun t ht => by subst ht; rfl)⟩
  · rw [hl]; exact ho.blk h.blk (by rw [h.tag]; simp)
  · rw [hl]; exact h.tasks.move rfl ho hx (by simp)
  · rw [hl] at hj
    have e1 : taskF (setWait S n x) j = if j = n then { taskF S n with wait := x } else taskF S j := taskF_set S n j _ hn
    rw [e1]
    by_cases e_ : j = n
    · subst e_
      rw [if_pos rfl]
      exact ⟨A, c, v, blk_put ha.blk 2 _ rfl, ha.cap, ha.acts.move ho hx (by simp), ha.told.move rfl ho hx (by simp), ha.tag⟩
    · rw [if_neg e_]
      exact (h.each j hj).move ho hx (by simp) (by simp [e_]) (by simp)
def wkTs (c : Int) (ts : List TS) (i : Nat) : List TS := (ts.take i).map (wakeT c) ++ ts.drop i
theorem wkTs_zero (c : Int) (ts : List TS) : wkTs c ts 0 = ts := by simp [wkTs]
theorem wkTs_len (c : Int) (ts : List TS) (i : Nat) : (wkTs c ts i).length = ts.length := by simp [wkTs]; omega
theorem wkTs_all (c : Int) (ts : List TS) : wkTs c ts ts.length = ts.map (wakeT c) := by simp [wkTs]
theorem wkTs_get (c : Int) (ts : List TS) (i : Nat) (hi : i < ts.length) : (wkTs c ts i).getD i default = ts.getD i default := by
  simp only [List.getD_eq_getElem?_getD, wkTs]
  rw [List.getElem?_append_right (by simp; omega)]
  simp [Nat.min_eq_left (Nat.le_of_lt hi)]
theorem wkTs_yes (c : Int) (ts : List TS) (i : Nat) (hi : i < ts.length) (h : (ts.getD i default).wait = c) : wkTs c ts (i + 1) = (wkTs c ts i).set i { ts.getD i default with wait := 0 } := by
  have e : ts.getD i default = ts[i] := by simp [List.getD_eq_getElem?_getD, hi]
  rw [e] at h ⊢
  unfold wkTs
  rw [List.set_append_right _ _ (by simp; omega), List.take_succ_eq_append_getElem hi, List.map_append, List.append_assoc]
  congr 1
  have hz : i - ((ts.take i).map (wakeT c)).length = 0 := by simp; omega
  rw [hz, List.drop_eq_getElem_cons hi, List.set_cons_zero]
  simp [wakeT, h]
theorem wkTs_no (c : Int) (ts : List TS) (i : Nat) (hi : i < ts.length) (h : (ts.getD i default).wait ≠ c) : wkTs c ts (i + 1) = wkTs c ts i := by
  have e : ts.getD i default = ts[i] := by simp [List.getD_eq_getElem?_getD, hi]
  rw [e] at h
  unfold wkTs
  rw [List.take_succ_eq_append_getElem hi, List.map_append, List.append_assoc]
  congr 1
  rw [List.drop_eq_getElem_cons hi]
  simp [wakeT, h]
set_option maxHeartbeats 4000000 in
set_option maxRecDepth 100000 in
theorem rwakeAt_calls (h : RefAt k w g p S A0 c0 A1 c1 A2 c2 At ct bs) (hn : S.tasks.length ≤ 64) (c : Int) : Calls Try.prog 42 #[.pointer (some ⟨p, 0, none⟩), .int .i64 c] w fun e w' => e = .returned (.int .i64 (wokenF c S)) ∧ RefAt k w' g p (wakeF c S) A0 c0 A1 c1 A2 c2 At ct bs ∧ Only (TRA k) g w w' := by
  have HH := Aside0.mk h
  have c3 := (blkc h.blk 3 rfl).1
  have HWG := Aside0.mk (waitsF_get S)
  have HWL := Aside0.mk (waitsF_len S)
  have hnl : ∃ n, S.tasks.length = n := ⟨_, rfl⟩
  obtain ⟨n, hnn⟩ := hnl
  have HNN := Aside0.mk hnn
  by_cases hc : c < 1
  · have HS := Aside0.mk (show wakeF c S = S by unfold wakeF; rw [if_pos hc])
    have HW := Aside0.mk (show wokenF c S = 0 by unfold wokenF; rw [if_pos hc])
    have hd : decide (0 < c) = false := decide_eq_false (by omega)
    rw [hnn] at hn c3 HWL
    clear h hnn hc
    go_enter Try.func42, Try.ntmps42
    go_wp2
    go_loopg [5, 6] n (fun kq v5 v6 w' => ∃ (i : Nat), v6 = .int .i64 i ∧ v5 = .int .i64 0 ∧ i ≤ n ∧ Aside0 (kq = n - i) ∧ w = w')
    case atStart => exact ⟨0, rfl, rfl, Nat.zero_le _, ⟨rfl⟩, rfl⟩
    case round =>
      obtain ⟨i, rfl, rfl, hi, HK, rfl⟩ := hrel
      by_cases hlt : i < n
      · obtain ⟨k1, rfl⟩ : ∃ k1, gk = k1 + 1 := ⟨gk - 1, by have := HK.out; omega⟩
        have HK1 := Aside0.mk (show k1 = n - (i + 1) by have := HK.out; omega)
        obtain ⟨gt, e1⟩ := HH.out.form (by rw [HNN.out]; omega)
        subst e1
        obtain ⟨_, x1, x2, _⟩ := HH.out.cells HNN.out hlt
        obtain ⟨x, hxe⟩ : ∃ x, (taskF S i).wait = x := ⟨_, rfl⟩
        rw [hxe] at x2
        obtain ⟨bi, hbi⟩ : ∃ bi, bs.getD i 0 = bi := ⟨_, rfl⟩
        rw [hbi] at x1 x2
        clear hbi HK hxe
        by_cases h0 : x = c
        · have hb : (x == c) = true := by simp [h0]
          clear h0
          go_wp2
          go_roundg k1
          case measure => omega
          case rel => exact ⟨i + 1, by first | rfl | (congr 1; omega) | (simp; done), rfl, hlt, HK1, rfl⟩
        · have hb : (x == c) = false := by simp [h0]
          clear h0
          go_wp2
          go_roundg k1
          case measure => omega
          case rel => exact ⟨i + 1, by first | rfl | (congr 1; omega) | (simp; done), rfl, hlt, HK1, rfl⟩
      · obtain rfl : i = n := by omega
        go_wp2
        go_ret
        exact ⟨by rw [HW.out]; rfl, by rw [HS.out]; exact HH.out, Only.refl _ _ _⟩
  · have hd : decide (0 < c) = true := decide_eq_true (by omega)
    have HW := Aside0.mk (show wokenF c S = (wokenTo c (waitsF S) n : Int) by unfold wokenF; rw [if_neg hc, hnn])
    have HF := Aside0.mk (show wakeF c S = { S with tasks := wkTs c S.tasks n } by unfold wakeF; rw [if_neg hc, ← hnn, wkTs_all])
    have C3 := Aside0.mk (fun (w1 : World) (i : Nat) (h1 : RefAt k w1 g p { S with tasks := wkTs c S.tasks i } A0 c0 A1 c1 A2 c2 At ct bs) => show w1.cell? ⟨p, 3, none⟩ = some (.slice At n ct) by
      have := (blkc h1.blk 3 rfl).1
      rw [this]
      show some (Value.slice At (wkTs c S.tasks i).length ct) = _
      rw [wkTs_len, hnn])
    rw [hnn] at hn c3 HWL
    clear h hnn hc
    have H0 := Aside0.mk (show RefAt k w g p { S with tasks := wkTs c S.tasks 0 } A0 c0 A1 c1 A2 c2 At ct bs by rw [wkTs_zero]; exact HH.out)
    go_enter Try.func42, Try.ntmps42
    go_wp2
    go_loopg [5, 6] n (fun kq v5 v6 w' => ∃ (i m : Nat), v6 = .int .i64 i ∧ v5 = .int .i64 m ∧ m ≤ i ∧ i ≤ n ∧ Aside0 (m = wokenTo c (waitsF S) i) ∧ Aside0 (kq = n - i) ∧ Aside0 (RefAt k w' g p { S with tasks := wkTs c S.tasks i } A0 c0 A1 c1 A2 c2 At ct bs) ∧ Aside0 (Only (TRA k) g w w'))
    case atStart => exact ⟨0, 0, rfl, rfl, Nat.le_refl _, Nat.zero_le _, ⟨by simp [wokenTo]⟩, ⟨rfl⟩, H0, ⟨Only.refl _ _ _⟩⟩
    case round =>
      clear c3 H0
      obtain ⟨i, m, rfl, rfl, hmi, hi, HN, HK, HR, HO⟩ := hrel
      have c3 := C3.out _ _ HR.out
      by_cases hlt : i < n
      · obtain ⟨k1, rfl⟩ : ∃ k1, gk = k1 + 1 := ⟨gk - 1, by have := HK.out; omega⟩
        have HK1 := Aside0.mk (show k1 = n - (i + 1) by have := HK.out; omega)
        have hlS : i < S.tasks.length := by rw [HNN.out]; exact hlt
        have hlen : ({ S with tasks := wkTs c S.tasks i } : LS).tasks.length = n := (wkTs_len c S.tasks i).trans HNN.out
        obtain ⟨gt, e1⟩ := HR.out.form (by rw [hlen]; omega)
        subst e1
        obtain ⟨_, x1, x2, x2f⟩ := HR.out.cells hlen hlt
        have etask : taskF { S with tasks := wkTs c S.tasks i } i = taskF S i := wkTs_get c S.tasks i hlS
        rw [etask] at x2
        obtain ⟨x, hxe⟩ : ∃ x, (taskF S i).wait = x := ⟨_, rfl⟩
        rw [hxe] at x2
        have hwi : (waitsF S).getD i 0 = x := by rw [HWG.out, if_pos hlS, hxe]
        have hwl : i < (waitsF S).length := by rw [HWL.out]; exact hlt
        by_cases h0 : x = c
        · have hb : (x == c) = true := by simp [h0]
          have HN1 := Aside0.mk (show m + 1 = wokenTo c (waitsF S) (i + 1) by rw [wokenTo_yes c (waitsF S) i hwl (hwi.trans h0), HN.out])
          obtain ⟨hr1, ho1⟩ := HR.out.setW (n := i) (by rw [hlen]; exact hlt) 0
          have hset : setWait { S with tasks := wkTs c S.tasks i } i 0 = { S with tasks := wkTs c S.tasks (i + 1) } := by
            unfold setWait
            rw [etask, wkTs_yes c S.tasks i hlS (hxe.trans h0)]
            rfl
          rw [hset] at hr1
          obtain ⟨bi, hbi⟩ : ∃ bi, bs.getD i 0 = bi := ⟨_, rfl⟩
          rw [hbi] at x1 x2 x2f hr1 ho1
          have HP := Aside0.mk hr1
          have HO1 := Aside0.mk (HO.out.trans ho1 (Ext.refl _ _))
          clear hbi HK hxe hset h0 hwi hwl hr1 ho1 etask hlen HN
          go_wp2
          go_roundg k1
          case measure => omega
          case rel => exact ⟨i + 1, m + 1, by first | rfl | (congr 1; omega) | (simp; done), by first | rfl | (congr 1; omega) | (simp; done), by omega, hlt, HN1, HK1, HP, HO1⟩
        · have hb : (x == c) = false := by simp [h0]
          have HN1 := Aside0.mk (show m = wokenTo c (waitsF S) (i + 1) by rw [wokenTo_no c (waitsF S) i hwl (by rw [hwi]; exact h0), HN.out])
          have HP := Aside0.mk (show RefAt k wr g p { S with tasks := wkTs c S.tasks (i + 1) } A0 c0 A1 c1 A2 c2 (some ⟨gt, 0, none⟩) ct bs by
            have hh : (S.tasks.getD i default).wait ≠ c := by
              have : (taskF S i).wait ≠ c := by rw [hxe]; exact h0
              exact this
            rw [wkTs_no c S.tasks i hlS hh]; exact HR.out)
          obtain ⟨bi, hbi⟩ : ∃ bi, bs.getD i 0 = bi := ⟨_, rfl⟩
          rw [hbi] at x1 x2 x2f
          clear hbi HK hxe h0 hwi hwl etask hlen HN
          go_wp2
          go_roundg k1
          case measure => omega
          case rel => exact ⟨i + 1, m, by first | rfl | (congr 1; omega) | (simp; done), rfl, by omega, hlt, HN1, HK1, HP, HO⟩
      · obtain rfl : i = n := by omega
        go_wp2
        go_ret
        exact ⟨by rw [HW.out, ← HN.out]; rfl, by rw [HF.out]; exact HR.out, HO.out⟩
theorem rwake_calls (h : RefIs k w g p S) (hn : S.tasks.length ≤ 64) (c : Int) : Calls Try.prog 42 #[.pointer (some ⟨p, 0, none⟩), .int .i64 c] w fun e w' => e = .returned (.int .i64 (wokenF c S)) ∧ RefIs k w' g p (wakeF c S) ∧ Only (TRA k) g w w' := by
  obtain ⟨A0, c0, A1, c1, A2, c2, At, ct, bs, h⟩ := h
  refine (rwakeAt_calls h hn c).mono ?_
  rintro e w' ⟨h1, h2, h3⟩
  exact ⟨h1, ⟨_, _, _, _, _, _, _, _, _, h2⟩, h3⟩
end
end Go.Proofs.Ytompgphlinjglaa.P
