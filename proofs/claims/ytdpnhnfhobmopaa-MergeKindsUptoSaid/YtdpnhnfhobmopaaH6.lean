/- The law MergeKinds, walked. -/
import Derived.Test.YtdpnhnfhobmopaaH5
import Derived.Test.YtdpnhnfhobmopaaPL0a
namespace Go.Proofs.Ytdpnhnfhobmopaa.P
open Go.RowKit Go.Shelf Go.Proofs.YtdpnhnfhobmopaaW.PrintWords Go.Proofs.YtdpnhnfhobmopaaW.PrintLast Go.Proofs.YtdpnhnfhobmopaaW.PrintMore
set_option linter.unusedVariables false
set_option linter.unusedSimpArgs false

/-- Three rows, written out in a row. -/
theorem C_lit3 {W : World} {g t : Nat} {A1 A2 A3 : Option Addr} {c1 c2 c3 : Nat} (x1 x2 x3 : List S24) (h : W.heap[g]? = some (.cells #[.slice A1 x1.length c1, .slice A2 x2.length c2, .slice A3 x3.length c3] t (0, 0))) (h1 : Kd.C k24 W A1 x1.length x1) (l1 : x1.length ≤ c1) (h2 : Kd.C k24 W A2 x2.length x2) (l2 : x2.length ≤ c2) (h3 : Kd.C k24 W A3 x3.length x3) (l3 : x3.length ≤ c3) :
    Kd.C (Kd.slice 24 k24) W (some ⟨g, 0, none⟩) 3 [x1, x2, x3] := by
  refine ⟨rfl, by decide, fun _ => ⟨_, rfl, fun j p hj => ?_⟩⟩
  match j, hj with
  | 0, hj =>
    obtain rfl : x1 = p := by simpa using hj
    refine ⟨[.slice A1 x1.length c1], rfl, ⟨A1, c1, rfl, l1, h1⟩, fun i u hu => ?_⟩
    match i, hu with
    | 0, hu => rw [cell_add0]; exact (blk_cell1 h 0 (by simpa using hu)).1
    | i + 1, hu => simp at hu
  | 1, hj =>
    obtain rfl : x2 = p := by simpa using hj
    refine ⟨[.slice A2 x2.length c2], rfl, ⟨A2, c2, rfl, l2, h2⟩, fun i u hu => ?_⟩
    match i, hu with
    | 0, hu => rw [cell_add0]; exact (blk_cell1 h 1 (by simpa using hu)).1
    | i + 1, hu => simp at hu
  | 2, hj =>
    obtain rfl : x3 = p := by simpa using hj
    refine ⟨[.slice A3 x3.length c3], rfl, ⟨A3, c3, rfl, l3, h3⟩, fun i u hu => ?_⟩
    match i, hu with
    | 0, hu => rw [cell_add0]; exact (blk_cell1 h 2 (by simpa using hu)).1
    | i + 1, hu => simp at hu
  | j + 3, hj => simp at hj
set_option maxHeartbeats 4000000 in
set_option maxRecDepth 100000 in
/-- One of the lists is not in order: nothing is merged. -/
theorem kinds_no (k : Nat) (A0 : Option Addr) (c0 : Nat) (l0 : List S24) (A1 : Option Addr) (c1 : Nat) (l1 : List S24) (A2 : Option Addr) (c2 : Nat) (l2 : List S24) (w : World) (hr0 : Kd.C k24 w A0 l0.length l0) (hc0 : l0.length ≤ c0) (hr1 : Kd.C k24 w A1 l1.length l1) (hc1 : l1.length ≤ c1) (hr2 : Kd.C k24 w A2 l2.length l2) (hc2 : l2.length ≤ c2)
    (hm : merge_Merge.f [l0, l1, l2] = some []) (hs : atriumref10_Sorted.f k l0 = some false ∨ (atriumref10_Sorted.f k l0 = some true ∧ atriumref10_Sorted.f k l1 = some false) ∨ (atriumref10_Sorted.f k l0 = some true ∧ atriumref10_Sorted.f k l1 = some true ∧ atriumref10_Sorted.f k l2 = some false)) :
    Calls Try.prog 5 #[.slice A0 l0.length c0, .slice A1 l1.length c1, .slice A2 l2.length c2] w fun e w' => e = .returned (.bool true) ∧ Below w.heap.size w w' := by
  have HR0 := Aside0.mk hr0
  have HR1 := Aside0.mk hr1
  have HR2 := Aside0.mk hr2
  have HM := Aside0.mk hm
  clear hr0 hr1 hr2 hm
  rcases hs with hs | ⟨hs, hs1⟩ | ⟨hs, hs1, hs2⟩
  · have HS := Aside0.mk hs
    clear hs
    go_enter Try.func5, Try.ntmps5
    go_wp2_with (first
      | (go_at_call 11; refine (atriumlaw10_awake.calls true _ rfl).mono ?_; rintro e wa ⟨rfl, hb⟩; have HB := Aside0.mk hb; clear hb)
      | (go_at_call 17; refine (merge_Merge.calls _ _ [l0, l1, l2] [] _ (C_lit3 l0 l1 l2 (alloc_heap_new' wa _) (Kd.C_below HR0.out (below_alloc HB.out _)) hc0 (Kd.C_below HR1.out (below_alloc HB.out _)) hc1 (Kd.C_below HR2.out (below_alloc HB.out _)) hc2) (by simp) HM.out).mono ?_; rintro e w1 ⟨v1, rfl, hr, hb⟩; have HB1 := Aside0.mk ((below_alloc HB.out _).trans (hb.mono (below_alloc HB.out _).size)); obtain ⟨A5, c5, rfl⟩ := Kd.R_slice hr; clear hr hb)
      | (go_at_call 15; refine (atriumref10_Sorted.calls k _ _ l0 false _ (Kd.C_below HR0.out HB1.out) hc0 HS.out).mono ?_; rintro e w2 ⟨rfl, hb⟩; have HB2 := Aside0.mk (HB1.out.trans (hb.mono HB1.out.size)); clear hb))
    go_ret
    exact ⟨rfl, HB2.out⟩
  · have HS := Aside0.mk hs
    have HS1 := Aside0.mk hs1
    clear hs hs1
    go_enter Try.func5, Try.ntmps5
    go_wp2_with (first
      | (go_at_call 11; refine (atriumlaw10_awake.calls true _ rfl).mono ?_; rintro e wa ⟨rfl, hb⟩; have HB := Aside0.mk hb; clear hb)
      | (go_at_call 17; refine (merge_Merge.calls _ _ [l0, l1, l2] [] _ (C_lit3 l0 l1 l2 (alloc_heap_new' wa _) (Kd.C_below HR0.out (below_alloc HB.out _)) hc0 (Kd.C_below HR1.out (below_alloc HB.out _)) hc1 (Kd.C_below HR2.out (below_alloc HB.out _)) hc2) (by simp) HM.out).mono ?_; rintro e w1 ⟨v1, rfl, hr, hb⟩; have HB1 := Aside0.mk ((below_alloc HB.out _).trans (hb.mono (below_alloc HB.out _).size)); obtain ⟨A5, c5, rfl⟩ := Kd.R_slice hr; have tk1 : True := trivial; clear hr hb)
      | (go_at_call 15; have _t := tk1; refine (atriumref10_Sorted.calls k _ _ l0 true _ (Kd.C_below HR0.out HB1.out) hc0 HS.out).mono ?_; rintro e w2 ⟨rfl, hb⟩; have HB2 := Aside0.mk (HB1.out.trans (hb.mono HB1.out.size)); clear hb tk1 _t)
      | (go_at_call 15; refine (atriumref10_Sorted.calls k _ _ l1 false _ (Kd.C_below HR1.out HB2.out) hc1 HS1.out).mono ?_; rintro e w3 ⟨rfl, hb⟩; have HB3 := Aside0.mk (HB2.out.trans (hb.mono HB2.out.size)); clear hb))
    go_ret
    exact ⟨rfl, HB3.out⟩
  · have HS := Aside0.mk hs
    have HS1 := Aside0.mk hs1
    have HS2 := Aside0.mk hs2
    clear hs hs1 hs2
    go_enter Try.func5, Try.ntmps5
    go_wp2_with (first
      | (go_at_call 11; refine (atriumlaw10_awake.calls true _ rfl).mono ?_; rintro e wa ⟨rfl, hb⟩; have HB := Aside0.mk hb; clear hb)
      | (go_at_call 17; refine (merge_Merge.calls _ _ [l0, l1, l2] [] _ (C_lit3 l0 l1 l2 (alloc_heap_new' wa _) (Kd.C_below HR0.out (below_alloc HB.out _)) hc0 (Kd.C_below HR1.out (below_alloc HB.out _)) hc1 (Kd.C_below HR2.out (below_alloc HB.out _)) hc2) (by simp) HM.out).mono ?_; rintro e w1 ⟨v1, rfl, hr, hb⟩; have HB1 := Aside0.mk ((below_alloc HB.out _).trans (hb.mono (below_alloc HB.out _).size)); obtain ⟨A5, c5, rfl⟩ := Kd.R_slice hr; have tk1 : True := trivial; clear hr hb)
      | (go_at_call 15; have _t := tk1; refine (atriumref10_Sorted.calls k _ _ l0 true _ (Kd.C_below HR0.out HB1.out) hc0 HS.out).mono ?_; rintro e w2 ⟨rfl, hb⟩; have HB2 := Aside0.mk (HB1.out.trans (hb.mono HB1.out.size)); have tk2 : True := trivial; clear hb tk1 _t)
      | (go_at_call 15; have _t := tk2; refine (atriumref10_Sorted.calls k _ _ l1 true _ (Kd.C_below HR1.out HB2.out) hc1 HS1.out).mono ?_; rintro e w3 ⟨rfl, hb⟩; have HB3 := Aside0.mk (HB2.out.trans (hb.mono HB2.out.size)); clear hb tk2 _t)
      | (go_at_call 15; refine (atriumref10_Sorted.calls k _ _ l2 false _ (Kd.C_below HR2.out HB3.out) hc2 HS2.out).mono ?_; rintro e w4 ⟨rfl, hb⟩; have HB4 := Aside0.mk (HB3.out.trans (hb.mono HB3.out.size)); clear hb))
    go_ret
    exact ⟨rfl, HB4.out⟩
set_option maxHeartbeats 4000000 in
set_option maxRecDepth 100000 in
/-- All lists are in order. -/
theorem kinds_yes (k : Nat) (A0 : Option Addr) (c0 : Nat) (l0 : List S24) (A1 : Option Addr) (c1 : Nat) (l1 : List S24) (A2 : Option Addr) (c2 : Nat) (l2 : List S24) (w : World) (hr0 : Kd.C k24 w A0 l0.length l0) (hc0 : l0.length ≤ c0) (hr1 : Kd.C k24 w A1 l1.length l1) (hc1 : l1.length ≤ c1) (hr2 : Kd.C k24 w A2 l2.length l2) (hc2 : l2.length ≤ c2)
    (M M1 M2 : List S24) (hm : merge_Merge.f [l0, l1, l2] = some M) (hs0 : atriumref10_Sorted.f k l0 = some true) (hs1 : atriumref10_Sorted.f k l1 = some true) (hs2 : atriumref10_Sorted.f k l2 = some true)
    (hm1 : merge_Merge.f [l0, l1] = some M1) (hm2 : merge_Merge.f [M1, l2] = some M) (hm3 : merge_Merge.f [l1, l2] = some M2) (hm4 : merge_Merge.f [l0, M2] = some M) (hm5 : merge_Merge.f [M, M] = some M) (hsm : atriumlaw10_same.f k M M = some true) (hss : merge_Sorted.f k M = some true) :
    Calls Try.prog 5 #[.slice A0 l0.length c0, .slice A1 l1.length c1, .slice A2 l2.length c2] w fun e w' => e = .returned (.bool true) ∧ Below w.heap.size w w' := by
  have HR0 := Aside0.mk hr0
  have HR1 := Aside0.mk hr1
  have HR2 := Aside0.mk hr2
  have HM := Aside0.mk hm
  have HS0 := Aside0.mk hs0
  have HS1 := Aside0.mk hs1
  have HS2 := Aside0.mk hs2
  have HM1 := Aside0.mk hm1
  have HM2 := Aside0.mk hm2
  have HM3 := Aside0.mk hm3
  have HM4 := Aside0.mk hm4
  have HM5 := Aside0.mk hm5
  have HSM := Aside0.mk hsm
  have HSS := Aside0.mk hss
  clear hr0 hr1 hr2 hm hs0 hs1 hs2 hm1 hm2 hm3 hm4 hm5 hsm hss
  go_enter Try.func5, Try.ntmps5
  go_wp2_with (first
    | (go_at_call 11; refine (atriumlaw10_awake.calls true _ rfl).mono ?_; rintro e wa ⟨rfl, hb⟩; have HB := Aside0.mk hb; have t0 : True := trivial; clear hb)
    | (go_at_call 17; have _t := t0; refine (merge_Merge.calls _ _ [l0, l1, l2] M _ (C_lit3 l0 l1 l2 (alloc_heap_new' wa _) (Kd.C_below HR0.out (below_alloc HB.out _)) hc0 (Kd.C_below HR1.out (below_alloc HB.out _)) hc1 (Kd.C_below HR2.out (below_alloc HB.out _)) hc2) (by simp) HM.out).mono ?_; rintro e w1 ⟨v1, rfl, hr, hb⟩; have HB1 := Aside0.mk ((below_alloc HB.out _).trans (hb.mono (below_alloc HB.out _).size)); obtain ⟨A5, c5, rfl, hc5, hC5⟩ := Kd.R_reads hr; have HC5 := Aside0.mk hC5; have HL5 := Aside0.mk hc5; have t1 : True := trivial; clear hr hb t0 _t hC5 hc5)
    | (go_at_call 15; have _t := t1; refine (atriumref10_Sorted.calls k _ _ l0 true _ (Kd.C_below HR0.out HB1.out) hc0 HS0.out).mono ?_; rintro e w2 ⟨rfl, hb⟩; have HB2 := Aside0.mk (HB1.out.trans (hb.mono HB1.out.size)); have HN2 := Aside0.mk hb; have t2 : True := trivial; clear hb t1 _t)
    | (go_at_call 15; have _t := t2; refine (atriumref10_Sorted.calls k _ _ l1 true _ (Kd.C_below HR1.out HB2.out) hc1 HS1.out).mono ?_; rintro e w3 ⟨rfl, hb⟩; have HB3 := Aside0.mk (HB2.out.trans (hb.mono HB2.out.size)); have HN3 := Aside0.mk (HN2.out.trans (hb.mono HN2.out.size)); have t3 : True := trivial; clear hb t2 _t)
    | (go_at_call 15; have _t := t3; refine (atriumref10_Sorted.calls k _ _ l2 true _ (Kd.C_below HR2.out HB3.out) hc2 HS2.out).mono ?_; rintro e w4 ⟨rfl, hb⟩; have HB4 := Aside0.mk (HB3.out.trans (hb.mono HB3.out.size)); have HN4 := Aside0.mk (HN3.out.trans (hb.mono HN3.out.size)); have t4 : True := trivial; clear hb t3 _t)
    | (go_at_call 17; have _t := t4; refine (merge_Merge.calls _ _ [l0, l1] M1 _ (C_lit2 l0 l1 (alloc_heap_new' w4 _) (Kd.C_below HR0.out (below_alloc HB4.out _)) hc0 (Kd.C_below HR1.out (below_alloc HB4.out _)) hc1) (by simp) HM1.out).mono ?_; rintro e w5 ⟨v1, rfl, hr, hb⟩; have HB5 := Aside0.mk ((below_alloc HB4.out _).trans (hb.mono (below_alloc HB4.out _).size)); have HN5 := Aside0.mk ((below_alloc HN4.out _).trans (hb.mono (below_alloc HN4.out _).size)); obtain ⟨A6, c6, rfl, hc6, hC6⟩ := Kd.R_reads hr; have HC6 := Aside0.mk hC6; have HL6 := Aside0.mk hc6; have t5 : True := trivial; clear hr hb t4 _t hC6 hc6)
    | (go_at_call 17; have _t := t5; refine (merge_Merge.calls _ _ [M1, l2] M _ (C_lit2 M1 l2 (alloc_heap_new' w5 _) (Kd.C_alloc HC6.out _) HL6.out (Kd.C_below HR2.out (below_alloc HB5.out _)) hc2) (by simp) HM2.out).mono ?_; rintro e w6 ⟨v1, rfl, hr, hb⟩; have HB6 := Aside0.mk ((below_alloc HB5.out _).trans (hb.mono (below_alloc HB5.out _).size)); have HN6 := Aside0.mk ((below_alloc HN5.out _).trans (hb.mono (below_alloc HN5.out _).size)); obtain ⟨A7, c7, rfl, hc7, hC7⟩ := Kd.R_reads hr; have HC7 := Aside0.mk hC7; have HL7 := Aside0.mk hc7; have t6 : True := trivial; clear hr hb t5 _t hC7 hc7)
    | (go_at_call 18; have _t := t6; refine (atriumlaw10_same.calls k _ _ M _ _ M true _ HC7.out HL7.out (Kd.C_below HC5.out HN6.out) HL5.out HSM.out).mono ?_; rintro e w7 ⟨rfl, hb⟩; have hb := hb.below; have HB7 := Aside0.mk (HB6.out.trans (hb.mono HB6.out.size)); have HN7 := Aside0.mk (HN6.out.trans (hb.mono HN6.out.size)); have t7 : True := trivial; clear hb t6 _t)
    | (go_at_call 17; have _t := t7; refine (merge_Merge.calls _ _ [l1, l2] M2 _ (C_lit2 l1 l2 (alloc_heap_new' w7 _) (Kd.C_below HR1.out (below_alloc HB7.out _)) hc1 (Kd.C_below HR2.out (below_alloc HB7.out _)) hc2) (by simp) HM3.out).mono ?_; rintro e w8 ⟨v1, rfl, hr, hb⟩; have HB8 := Aside0.mk ((below_alloc HB7.out _).trans (hb.mono (below_alloc HB7.out _).size)); have HN8 := Aside0.mk ((below_alloc HN7.out _).trans (hb.mono (below_alloc HN7.out _).size)); obtain ⟨A8, c8, rfl, hc8, hC8⟩ := Kd.R_reads hr; have HC8 := Aside0.mk hC8; have HL8 := Aside0.mk hc8; have t8 : True := trivial; clear hr hb t7 _t hC8 hc8)
    | (go_at_call 17; have _t := t8; refine (merge_Merge.calls _ _ [l0, M2] M _ (C_lit2 l0 M2 (alloc_heap_new' w8 _) (Kd.C_below HR0.out (below_alloc HB8.out _)) hc0 (Kd.C_alloc HC8.out _) HL8.out) (by simp) HM4.out).mono ?_; rintro e w9 ⟨v1, rfl, hr, hb⟩; have HB9 := Aside0.mk ((below_alloc HB8.out _).trans (hb.mono (below_alloc HB8.out _).size)); have HN9 := Aside0.mk ((below_alloc HN8.out _).trans (hb.mono (below_alloc HN8.out _).size)); obtain ⟨A9, c9, rfl, hc9, hC9⟩ := Kd.R_reads hr; have HC9 := Aside0.mk hC9; have HL9 := Aside0.mk hc9; have t9 : True := trivial; clear hr hb t8 _t hC9 hc9)
    | (go_at_call 18; have _t := t9; refine (atriumlaw10_same.calls k _ _ M _ _ M true _ HC9.out HL9.out (Kd.C_below HC5.out HN9.out) HL5.out HSM.out).mono ?_; rintro e w10 ⟨rfl, hb⟩; have hb := hb.below; have HB10 := Aside0.mk (HB9.out.trans (hb.mono HB9.out.size)); have HN10 := Aside0.mk (HN9.out.trans (hb.mono HN9.out.size)); have t10 : True := trivial; clear hb t9 _t)
    | (go_at_call 17; have _t := t10; refine (merge_Merge.calls _ _ [M, M] M _ (C_lit2 M M (alloc_heap_new' w10 _) (Kd.C_below HC5.out (below_alloc HN10.out _)) HL5.out (Kd.C_below HC5.out (below_alloc HN10.out _)) HL5.out) (by simp) HM5.out).mono ?_; rintro e w11 ⟨v1, rfl, hr, hb⟩; have HB11 := Aside0.mk ((below_alloc HB10.out _).trans (hb.mono (below_alloc HB10.out _).size)); have HN11 := Aside0.mk ((below_alloc HN10.out _).trans (hb.mono (below_alloc HN10.out _).size)); obtain ⟨A11, c11, rfl, hc11, hC11⟩ := Kd.R_reads hr; have HC11 := Aside0.mk hC11; have HL11 := Aside0.mk hc11; have t11 : True := trivial; clear hr hb t10 _t hC11 hc11)
    | (go_at_call 18; have _t := t11; refine (atriumlaw10_same.calls k _ _ M _ _ M true _ HC11.out HL11.out (Kd.C_below HC5.out HN11.out) HL5.out HSM.out).mono ?_; rintro e w12 ⟨rfl, hb⟩; have hb := hb.below; have HB12 := Aside0.mk (HB11.out.trans (hb.mono HB11.out.size)); have HN12 := Aside0.mk (HN11.out.trans (hb.mono HN11.out.size)); have t12 : True := trivial; clear hb t11 _t)
    | (go_at_call 14; have _t := t12; refine (merge_Sorted.calls k _ _ M true _ (Kd.C_below HC5.out HN12.out) HL5.out HSS.out).mono ?_; rintro e w13 ⟨rfl, hb⟩; have HB13 := Aside0.mk (HB12.out.trans (hb.mono HB12.out.size)); clear hb t12 _t))
  go_ret
  exact ⟨rfl, HB13.out⟩
end Go.Proofs.Ytdpnhnfhobmopaa.P
