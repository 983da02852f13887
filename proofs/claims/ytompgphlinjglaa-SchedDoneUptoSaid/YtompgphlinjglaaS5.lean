/- Contracts: the program's Wake; what it leaves. -/
import Derived.Test.YtompgphlinjglaaS4
namespace Go.Proofs.Ytompgphlinjglaa.P
open Go.RowKit Go.Proofs.YtompgphlinjglaaW.PrintWords Go.Proofs.YtompgphlinjglaaW.PrintLast Go.Proofs.YtompgphlinjglaaW.PrintMore
attribute [local go_sem] Oper.semAt_some
set_option linter.unusedVariables false
set_option linter.unusedSimpArgs false

section
variable {k : Nat} {w w1 : World} {g : Nat → Tag} {p : Nat} {S : LS} {bs : List Nat}
theorem ActIs.same {i b : Nat} {t t' : TS} (h : ActIs k i w g b t) (h1 : t'.acts = t.acts) (h2 : t'.pos = t.pos) (h3 : t'.told = t.told) : ActIs k i w g b t' := by
  obtain ⟨A, c, v, h⟩ := h
  obtain ⟨a, q, x, d⟩ := t'
  simp only at h1 h2 h3
  subst h1 h2 h3
  exact ⟨A, c, v, h.blk, h.cap, h.acts, h.told, h.tag⟩
theorem LoopAt.turn {A0 : Option Addr} {c0 : Nat} {A1 : Option Addr} {c1 : Nat} {A2 : Option Addr} {c2 : Nat} {At : Option Addr} {ct : Nat} {Aw : Option Addr} {cw : Nat} {e : Nat} {bs : List Nat} {ts : List TS}
    (h : LoopAt k w g p S A0 c0 A1 c1 A2 c2 At ct Aw cw e bs) (ho : Only (fun t => t = .waits k) g w w1) (hl : ts.length = S.tasks.length)
    (ht : ∀ i, i < S.tasks.length → (ts.getD i default).acts = (taskF S i).acts ∧ (ts.getD i default).pos = (taskF S i).pos ∧ (ts.getD i default).told = (taskF S i).told)
    (hr : Row (Kd.int .i64) 3 w1 g (.waits k) (.slice Aw S.tasks.length cw) (ts.map (·.wait))) : LoopAt k w1 g p { S with tasks := ts } A0 c0 A1 c1 A2 c2 At ct Aw cw e bs := by
  have hx := Ext.refl w.heap.size g
  refine ⟨?_, ho.blk h.env (by rw [h.etag]; simp), h.l0, h.l1, h.l2, h.picks.move ho hx (by simp), h.ticks.move ho hx (by simp), h.draws.move ho hx (by simp), ?_, ?_, fun i hi => ?_, h.tag, h.etag⟩
  · have := ho.blk h.blk (by rw [h.tag]; simp)
    simpa only [hl] using this
  · have := h.tasks.move rfl ho hx (by simp)
    simpa only [hl] using this
  · show Row _ _ _ _ _ (.slice Aw ts.length cw) (ts.map (·.wait))
    rw [hl]; exact hr
  · have hi' : i < S.tasks.length := by rw [← hl]; exact hi
    obtain ⟨h1, h2, h3⟩ := ht i hi'
    exact ((h.each i hi').move ho hx (by simp) (by simp) (by simp)).same h1 h2 h3
def wakeTo (c : Int) (ws : List Int) (i : Nat) : List Int := (ws.take i).map (fun x => if x = c then 0 else x) ++ ws.drop i
theorem wakeTo_zero (c : Int) (ws : List Int) : wakeTo c ws 0 = ws := by simp [wakeTo]
theorem wakeTo_len (c : Int) (ws : List Int) (i : Nat) : (wakeTo c ws i).length = ws.length := by simp [wakeTo]; omega
theorem wakeTo_all (c : Int) (ws : List Int) : wakeTo c ws ws.length = ws.map (fun x => if x = c then 0 else x) := by simp [wakeTo]
theorem wakeTo_get (c : Int) (ws : List Int) (i : Nat) (hi : i < ws.length) : rd (wakeTo c ws i) (i : Int) = ws.getD i 0 := by
  simp only [rd, Int.toNat_natCast, List.getD_eq_getElem?_getD, wakeTo]
  rw [List.getElem?_append_right (by simp; omega)]
  simp [Nat.min_eq_left (Nat.le_of_lt hi)]
theorem wakeTo_yes (c : Int) (ws : List Int) (i : Nat) (hi : i < ws.length) (h : ws.getD i 0 = c) : wakeTo c ws (i + 1) = (wakeTo c ws i).set i 0 := by
  have e : ws[i] = c := by simpa [List.getD_eq_getElem?_getD, List.getElem?_eq_getElem hi] using h
  unfold wakeTo
  rw [List.set_append_right _ _ (by simp; omega), List.take_succ_eq_append_getElem hi, List.map_append, List.append_assoc]
  congr 1
  rw [List.drop_eq_getElem_cons hi]
  simp [e, Nat.min_eq_left (Nat.le_of_lt hi)]
theorem wakeTo_no (c : Int) (ws : List Int) (i : Nat) (hi : i < ws.length) (h : ws.getD i 0 ≠ c) : wakeTo c ws (i + 1) = wakeTo c ws i := by
  have e : ws[i] ≠ c := by simpa [List.getD_eq_getElem?_getD, List.getElem?_eq_getElem hi] using h
  unfold wakeTo
  rw [List.take_succ_eq_append_getElem hi, List.map_append, List.append_assoc]
  congr 1
  rw [List.drop_eq_getElem_cons hi]
  simp [e]
theorem waitsF_wake (c : Int) (ts : List TS) : (ts.map (wakeT c)).map (·.wait) = (ts.map (·.wait)).map (fun x => if x = c then 0 else x) := by
  rw [List.map_map, List.map_map]
  congr 1
  funext t
  simp only [Function.comp, wakeT]
  split <;> rfl
theorem wakeT_same (c : Int) (t : TS) : (wakeT c t).acts = t.acts ∧ (wakeT c t).pos = t.pos ∧ (wakeT c t).told = t.told := by
  unfold wakeT
  split <;> exact ⟨rfl, rfl, rfl⟩
theorem getD_map_wake (c : Int) (ts : List TS) (i : Nat) (hi : i < ts.length) : (ts.map (wakeT c)).getD i default = wakeT c (ts.getD i default) := by
  simp [List.getD_eq_getElem?_getD, hi]
set_option maxHeartbeats 4000000 in
set_option maxRecDepth 100000 in
theorem wake_calls (h : LoopIs k w g p S bs) (hn : S.tasks.length ≤ 64) (c : Int) : Calls Try.prog 14 #[.pointer (some ⟨p, 0, none⟩), .int .i64 c] w fun e w' => e = .returned (.int .i64 (wokenF c S)) ∧ LoopIs k w' g p (wakeF c S) bs ∧ Only (fun t => t = .waits k) g w w' := by
  have hm := made_calls h
  by_cases hc : c < 1
  · have HM := Aside0.mk hm
    have H := Aside0.mk h
    have HS := Aside0.mk (show wakeF c S = S by unfold wakeF; rw [if_pos hc])
    have HW := Aside0.mk (show wokenF c S = 0 by unfold wokenF; rw [if_pos hc])
    have hd : decide (c < 1) = true := decide_eq_true hc
    clear hm h hc
    go_enter Try.func14, Try.ntmps14
    go_wp2_with (go_at_call 35; refine HM.out.mono ?_; rintro e w' ⟨rfl, rfl⟩)
    go_ret
    exact ⟨by rw [HW.out]; rfl, by rw [HS.out]; exact H.out, Only.refl _ _ _⟩
  · obtain ⟨A0, c0, A1, c1, A2, c2, At, ct, Aw, cw, e, h⟩ := h
    have hd : decide (c < 1) = false := decide_eq_false hc
    have HW := Aside0.mk (show wokenF c S = (wokenTo c (waitsF S) S.tasks.length : Int) by unfold wokenF; rw [if_neg hc])
    have HF := Aside0.mk (fun (w1 : World) (ho : Only (fun t => t = .waits k) g w w1) (hr : Row (Kd.int .i64) 3 w1 g (.waits k) (.slice Aw S.tasks.length cw) (wakeTo c (waitsF S) S.tasks.length)) => show LoopIs k w1 g p (wakeF c S) bs by
      unfold wakeF
      rw [if_neg hc]
      refine ⟨A0, c0, A1, c1, A2, c2, At, ct, Aw, cw, e, h.turn ho (by simp) (fun i hi => ?_) ?_⟩
      · rw [getD_map_wake c S.tasks i hi]
        exact wakeT_same c _
      · have e1 := wakeTo_all c (waitsF S)
        rw [waitsF_len] at e1
        rw [e1] at hr
        rw [waitsF_wake]
        exact hr)
    have HR := Aside0.mk (show Row (Kd.int .i64) 3 w g (.waits k) (.slice Aw S.tasks.length cw) (wakeTo c (waitsF S) 0) by rw [wakeTo_zero]; exact h.waits)
    have hbl := h.blk
    have ht := h.tag
    have c4 := (blkc h.blk 4 rfl).1
    have HL := Aside0.mk (waitsF_len S)
    generalize waitsF S = ws at *
    generalize S.tasks.length = n at *
    have HM := Aside0.mk hm
    have C4 := Aside0.mk (fun (w1 : World) (ho : Only (fun t => t = .waits k) g w w1) => (blkc (ho.blk hbl (by rw [ht]; simp)) 4 rfl).1)
    clear h hm hc hbl ht
    go_enter Try.func14, Try.ntmps14
    go_wp2_with (go_at_call 35; refine HM.out.mono ?_; rintro e w' ⟨rfl, rfl⟩)
    go_loopg [5, 6, 7, 20] n (fun kq v5 v6 v7 v20 w' => ∃ (i m : Nat), v20 = .int .i64 i ∧ v5 = .int .i64 m ∧ m ≤ i ∧ i ≤ n ∧ Aside0 (m = wokenTo c ws i) ∧ Aside0 (kq = n - i) ∧ Aside0 (Row (Kd.int .i64) 3 w' g (.waits k) (.slice Aw n cw) (wakeTo c ws i)) ∧ Aside0 (Only (fun t => t = .waits k) g w w'))
    case atStart => exact ⟨0, 0, rfl, rfl, Nat.le_refl _, Nat.zero_le _, ⟨by simp [wokenTo]⟩, ⟨rfl⟩, HR, ⟨Only.refl _ _ _⟩⟩
    case round =>
      clear HM HR c4
      obtain ⟨i, m, rfl, rfl, hmi, hi, HN, HK, HR, HO⟩ := hrel
      by_cases hlt : i < n
      · obtain ⟨k1, rfl⟩ : ∃ k1, gk = k1 + 1 := ⟨gk - 1, by have := HK.out; omega⟩
        have HK1 := Aside0.mk (show k1 = n - (i + 1) by have := HK.out; omega)
        obtain ⟨g0, cap, ev, _, _, _⟩ := Kd.R_form HR.out.1 (by rw [wakeTo_len, HL.out]; omega)
        have e1 : Aw = some ⟨g0, 0, none⟩ := by injection ev
        cases e1
        clear ev
        have c4 := C4.out _ HO.out
        obtain ⟨hx, hz⟩ := Kd.R_celln (0 : Int) HR.out.1 (i : Int) (Int.natCast_nonneg _) (by omega)
        have hgt := HR.out.2 g0 rfl
        have HG := Aside0.mk hgt
        rw [Int.toNat_natCast] at hx hz
        have ex : rdOf (0 : Int) (wakeTo c ws i) (i : Int) = ws.getD i 0 := wakeTo_get c ws i (by rw [HL.out]; exact hlt)
        rw [ex] at hx
        obtain ⟨x, hxe⟩ : ∃ x, ws.getD i 0 = x := ⟨_, rfl⟩
        rw [hxe] at hx
        have HX := Aside0.mk hxe
        clear HK hxe ex hgt
        by_cases h0 : x = c
        · have hb : (x == c) = true := by simp [h0]
          have HE := Aside0.mk (wakeTo_yes c ws i (by rw [HL.out]; exact hlt) (HX.out.trans h0))
          have HN1 := Aside0.mk (show m + 1 = wokenTo c ws (i + 1) by rw [wokenTo_yes c ws i (by rw [HL.out]; exact hlt) (HX.out.trans h0), HN.out])
          have HP := Aside0.mk (show Row (Kd.int .i64) 3 (wr.setCell ⟨g0, i, none⟩ (.int .i64 0)) g (.waits k) (.slice (some ⟨g0, 0, none⟩) n cw) (wakeTo c ws (i + 1)) by
            rw [HE.out]
            have := Kd.R_putn HR.out.1 (i : Int) (0 : Int)
            rw [Int.toNat_natCast] at this
            exact ⟨this, HR.out.2⟩)
          have HO1 := Aside0.mk (HO.out.setCell (p := ⟨g0, i, none⟩) (.inl HG.out) (.int .i64 0))
          clear h0 HE HX HN
          go_wp2
          go_roundg k1
          case measure => omega
          case rel => exact ⟨i + 1, m + 1, by first | rfl | (congr 1; omega) | (simp; done), by first | rfl | (congr 1; omega) | (simp; done), by omega, hlt, HN1, HK1, HP, HO1⟩
        · have hb : (x == c) = false := by simp [h0]
          have HE := Aside0.mk (wakeTo_no c ws i (by rw [HL.out]; exact hlt) (by rw [HX.out]; exact h0))
          have HN1 := Aside0.mk (show m = wokenTo c ws (i + 1) by rw [wokenTo_no c ws i (by rw [HL.out]; exact hlt) (by rw [HX.out]; exact h0), HN.out])
          clear h0 HX HN
          go_wp2
          go_roundg k1
          case measure => omega
          case rel => exact ⟨i + 1, m, by first | rfl | (congr 1; omega) | (simp; done), rfl, by omega, hlt, HN1, HK1, ⟨by rw [HE.out]; exact HR.out⟩, HO⟩
      · obtain rfl : i = n := by omega
        go_wp2
        go_ret
        exact ⟨by rw [HW.out, ← HN.out]; rfl, HF.out _ HO.out HR.out, HO.out⟩
end
end Go.Proofs.Ytompgphlinjglaa.P
