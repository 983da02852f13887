/- Contracts: the program's loop: looks at it. -/
import Derived.Test.YtompgphlinjglaaS3
namespace Go.Proofs.Ytompgphlinjglaa.P
open Go.RowKit Go.Proofs.YtompgphlinjglaaW.PrintWords Go.Proofs.YtompgphlinjglaaW.PrintLast Go.Proofs.YtompgphlinjglaaW.PrintMore
attribute [local go_sem] Oper.semAt_some
set_option linter.unusedVariables false
set_option linter.unusedSimpArgs false

theorem blkc {w : World} {b : Nat} {t : TypeId} {cs : Array Value} {v : Value} (h : w.heap[b]? = some (.cells cs t (0, 0))) (i : Nat) (hv : cs[i]? = some v) : w.cell? ⟨b, i, none⟩ = some v ∧ w.frozen? ⟨b, i, none⟩ = false := ⟨(blk_cell h i).trans hv, blk_frozen h i⟩
def lp (p : Nat) : Value := .pointer (some ⟨p, 0, none⟩)
section
variable {k : Nat} {w : World} {g : Nat → Tag} {p : Nat} {S : LS} {bs : List Nat}
set_option maxHeartbeats 1000000 in
set_option maxRecDepth 100000 in
theorem made_calls (h : LoopIs k w g p S bs) : Calls Try.prog 35 #[.pointer (some ⟨p, 0, none⟩)] w fun e w' => e = .returned (.bool true) ∧ w = w' := by
  obtain ⟨A0, c0, A1, c1, A2, c2, At, ct, Aw, cw, e, h⟩ := h
  have c5 := (blkc h.blk 5 rfl).1
  clear h
  go_enter Try.func35, Try.ntmps35
  go_wp2
  go_ret
  exact ⟨rfl, rfl⟩
set_option maxHeartbeats 1000000 in
set_option maxRecDepth 100000 in
theorem madeNil_calls (w : World) : Calls Try.prog 35 #[.pointer none] w fun e w' => e = .returned (.bool false) ∧ w = w' := by
  go_enter Try.func35, Try.ntmps35
  go_wp2
  go_ret
  exact ⟨rfl, rfl⟩
set_option maxHeartbeats 1000000 in
set_option maxRecDepth 100000 in
theorem steps_calls (h : LoopIs k w g p S bs) : Calls Try.prog 18 #[.pointer (some ⟨p, 0, none⟩)] w fun e w' => e = .returned (.int .i64 S.count) ∧ w = w' := by
  have hm := made_calls h
  obtain ⟨A0, c0, A1, c1, A2, c2, At, ct, Aw, cw, e, h⟩ := h
  have c6 := (blkc h.blk 6 rfl).1
  have HM := Aside0.mk hm
  clear h hm
  go_enter Try.func18, Try.ntmps18
  go_wp2_with (go_at_call 35; refine HM.out.mono ?_; rintro e w' ⟨rfl, rfl⟩)
  go_ret
  exact ⟨rfl, rfl⟩
set_option maxHeartbeats 1000000 in
set_option maxRecDepth 100000 in
theorem now_calls (h : LoopIs k w g p S bs) : Calls Try.prog 19 #[.pointer (some ⟨p, 0, none⟩)] w fun e w' => e = .returned (.int .u64 S.clock) ∧ w = w' := by
  have hm := made_calls h
  obtain ⟨A0, c0, A1, c1, A2, c2, At, ct, Aw, cw, e, h⟩ := h
  have c5 := (blkc h.blk 5 rfl).1
  have e0 := (blkc h.env 0 rfl).1
  have HM := Aside0.mk hm
  clear h hm
  go_enter Try.func19, Try.ntmps19
  go_wp2_with (go_at_call 35; refine HM.out.mono ?_; rintro e w' ⟨rfl, rfl⟩)
  go_ret
  exact ⟨rfl, rfl⟩
set_option maxHeartbeats 1000000 in
set_option maxRecDepth 100000 in
theorem waits_calls (h : LoopIs k w g p S bs) (hn : S.tasks.length ≤ 64) : Calls Try.prog 13 #[.pointer (some ⟨p, 0, none⟩)] w fun e w' => ∃ v, e = .returned v ∧ Kd.R (Kd.int .i64) 3 w' w.heap.size (fun _ => True) v (waitsF S) ∧ Below w.heap.size w w' := by
  have hm := made_calls h
  obtain ⟨A0, c0, A1, c1, A2, c2, At, ct, Aw, cw, e, h⟩ := h
  have c4 := (blkc h.blk 4 rfl).1
  have hr := Kd.R_reads' h.waits.1
  rw [hr.1] at c4
  have HM := Aside0.mk hm
  have HC := Aside0.mk (cloneInts_calls Aw cw (waitsF S) w hr.2.2 (by rw [← hr.1]; exact hr.2.1) (by rw [waitsF_len]; omega))
  clear h hm hr hn
  go_enter Try.func13, Try.ntmps13
  go_wp2_with (first
    | (go_at_call 35; refine HM.out.mono ?_; rintro e w' ⟨rfl, rfl⟩)
    | (go_at_call 36; refine HC.out.mono ?_; rintro e w' ⟨v, rfl, hR, hB⟩; have HR := Aside0.mk hR; have HB := Aside0.mk hB; clear hR hB))
  go_ret
  exact ⟨_, rfl, HR.out, HB.out⟩
set_option maxHeartbeats 1000000 in
set_option maxRecDepth 100000 in
theorem done_calls (h : LoopIs k w g p S bs) : Calls Try.prog 17 #[.pointer (some ⟨p, 0, none⟩)] w fun e w' => e = .returned (.bool (!(waitsF S).any p38)) ∧ Drawn0 w w' := by
  have hm := made_calls h
  obtain ⟨A0, c0, A1, c1, A2, c2, At, ct, Aw, cw, e, h⟩ := h
  have c4 := (blkc h.blk 4 rfl).1
  have hr := Kd.R_reads' h.waits.1
  rw [hr.1] at c4
  have HM := Aside0.mk hm
  have HC := Aside0.mk (contains_notEnded_calls Aw cw (waitsF S) w hr.2.2)
  clear h hm hr
  go_enter Try.func17, Try.ntmps17
  go_wp2_with (first
    | (go_at_call 35; refine HM.out.mono ?_; rintro e w' ⟨rfl, rfl⟩)
    | (go_at_call 37; refine HC.out.mono ?_; rintro e w' ⟨rfl, hD⟩; have HD := Aside0.mk hD; clear hD))
  go_ret
  exact ⟨rfl, HD.out⟩
set_option maxHeartbeats 4000000 in
set_option maxRecDepth 100000 in
theorem ready_calls (h : LoopIs k w g p S bs) (hn : S.tasks.length ≤ 64) : Calls Try.prog 15 #[.pointer (some ⟨p, 0, none⟩)] w fun e w' => ∃ v, e = .returned v ∧ Kd.R (Kd.int .i64) 3 w' w.heap.size (fun _ => True) v (readyF S) ∧ Below w.heap.size w w' := by
  have hm := made_calls h
  obtain ⟨A0, c0, A1, c1, A2, c2, At, ct, Aw, cw, e, h⟩ := h
  have c4 := (blkc h.blk 4 rfl).1
  have hr := Kd.R_reads' h.waits.1
  rw [hr.1] at c4
  unfold readyF
  have hl : (waitsF S).length ≤ 64 := by rw [waitsF_len]; exact hn
  have HC := Aside0.mk hr.2.2
  generalize waitsF S = ws at *
  have HM := Aside0.mk hm
  clear h hm hr hn
  go_enter Try.func15, Try.ntmps15
  go_wp2_with (go_at_call 35; refine HM.out.mono ?_; rintro e w' ⟨rfl, rfl⟩)
  go_loopg [3, 4, 5, 14] ws.length (fun kq v3 v4 v5 v14 w' => ∃ (i : Nat) (u : Value), u = v3 ∧ v14 = .int .i64 i ∧ i ≤ ws.length ∧ Aside0 (kq = ws.length - i) ∧ Aside0 (Kd.R (Kd.int .i64) 3 w' w.heap.size (fun _ => True) u (readyTo ws i)) ∧ Aside0 (Below w.heap.size w w'))
  case atStart => exact ⟨0, _, rfl, rfl, Nat.zero_le _, ⟨rfl⟩, ⟨Kd.R_nil _ _ _ _ _⟩, ⟨Below.refl _ _⟩⟩
  case round =>
    clear HM
    obtain ⟨i, v3, rfl, rfl, hi, HK, HR, HB⟩ := hrel
    by_cases hlt : i < ws.length
    · obtain ⟨k1, rfl⟩ : ∃ k1, gk = k1 + 1 := ⟨gk - 1, by have := HK.out; omega⟩
      have HK1 := Aside0.mk (show k1 = ws.length - (i + 1) by have := HK.out; omega)
      obtain ⟨ad, e1, hx⟩ := Kd.at_int (Kd.C_below HC.out HB.out) (i : Int) (Int.natCast_nonneg _) (by omega)
      rw [Int.toNat_natCast] at hx
      cases e1
      obtain ⟨x, hxe⟩ : ∃ x, rd ws (i : Int) = x := ⟨_, rfl⟩
      rw [hxe] at hx
      have HX := Aside0.mk (show ws.getD i 0 = x by rw [← hxe]; simp [rd])
      clear HK hxe
      by_cases h0 : x = 0
      · have hb : (x == 0) = true := by simp [h0]
        have HL := Aside0.mk (readyTo_len ws i)
        have HE := Aside0.mk (readyTo_yes ws i (HX.out.trans h0))
        clear h0
        go_wp2_with ((with_reducible refine gate_builtin (b := .append) (xs := #[.tmp 21, .tmp 23]) rfl ?_); at_builtin; refine Kd.R_append (Kd.int .i64) (w0 := w) w.heap.size rfl (.tmp 21) (.tmp 23) 22 3 (.int .i64 0) 8 rfl Try.underlying22 info3 rfl (by decide) (by omega) v3 (readyTo ws i) (i : Int) [.int .i64 (i : Int)] (fun _ => True) (fun _ => False) rfl rfl rfl (fun _ h => h.elim) (fun _ _ => trivial) HR.out HB.out (below_size HB.out) (by have := HL.out; omega) ?_; intro v2 w2 ho2 hb2 hg2 hat2; clear hg2 hat2; rw [← HE.out] at ho2; have HO2 := Aside0.mk ho2; have HB2 := Aside0.mk hb2; clear ho2 hb2)
        go_roundg k1
        case measure => omega
        case rel => exact ⟨i + 1, v2, rfl, by first | rfl | (congr 1; omega) | (simp; done), hlt, HK1, HO2, HB2⟩
      · have hb : (x == 0) = false := by simp [h0]
        have HE := Aside0.mk (readyTo_no ws i (by rw [HX.out]; exact h0))
        clear h0
        go_wp2
        go_roundg k1
        case measure => omega
        case rel => exact ⟨i + 1, v3, rfl, by first | rfl | (congr 1; omega) | (simp; done), hlt, HK1, ⟨by rw [HE.out]; exact HR.out⟩, HB⟩
    · obtain rfl : i = ws.length := by omega
      go_wp2
      go_ret
      exact ⟨_, rfl, HR.out, HB.out⟩
end
end Go.Proofs.Ytompgphlinjglaa.P
