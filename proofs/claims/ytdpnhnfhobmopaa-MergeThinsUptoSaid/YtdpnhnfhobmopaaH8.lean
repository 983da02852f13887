/- The law MergeThins, walked. -/
import Derived.Test.YtdpnhnfhobmopaaH5
import Derived.Test.YtdpnhnfhobmopaaPL0a
namespace Go.Proofs.Ytdpnhnfhobmopaa.P
open Go.RowKit Go.Shelf Go.Proofs.YtdpnhnfhobmopaaW.PrintWords Go.Proofs.YtdpnhnfhobmopaaW.PrintLast Go.Proofs.YtdpnhnfhobmopaaW.PrintMore
set_option linter.unusedVariables false
set_option linter.unusedSimpArgs false

theorem thin_boxes {w W : World} {s0 s1 m0 m1 : Value} (hb : Below ((w.alloc (.cells #[s0, s1] 49)).alloc (.cells #[m0, m1] 45)).heap.size ((w.alloc (.cells #[s0, s1] 49)).alloc (.cells #[m0, m1] 45)) W) :
    (W.cell? ⟨w.heap.size, 0, none⟩ = some s0 ∧ W.cell? ⟨w.heap.size, 1, none⟩ = some s1) ∧ W.cell? ⟨w.heap.size + 1, 0, none⟩ = some m0 ∧ W.cell? ⟨w.heap.size + 1, 1, none⟩ = some m1 := by
  have h1 : W.heap[w.heap.size]? = some (.cells #[s0, s1] 49 (0, 0)) := (hb.block _ (by simp; omega)).trans ((Below.heap_alloc _ _ _ (by simp)).trans (alloc_heap_new' w _))
  have h2 : W.heap[w.heap.size + 1]? = some (.cells #[m0, m1] 45 (0, 0)) := by
    have h := alloc_heap_new' (w.alloc (.cells #[s0, s1] 49)) (.cells #[m0, m1] 45)
    rw [World.size_alloc] at h
    exact (hb.block _ (by simp)).trans h
  exact ⟨⟨(blk_cell1 h1 0 rfl).1, (blk_cell1 h1 1 rfl).1⟩, (blk_cell1 h2 0 rfl).1, (blk_cell1 h2 1 rfl).1⟩
theorem below_w2 {w W : World} {s0 s1 m0 m1 : Value} (hb : Below ((w.alloc (.cells #[s0, s1] 49)).alloc (.cells #[m0, m1] 45)).heap.size ((w.alloc (.cells #[s0, s1] 49)).alloc (.cells #[m0, m1] 45)) W) : Below w.heap.size w W :=
  (below_alloc (below_alloc (Below.refl _ _) _) _).trans (hb.mono (by simp; omega))
set_option maxHeartbeats 4000000 in
set_option maxRecDepth 100000 in
theorem thins_no0 (k : Nat) (A0 : Option Addr) (c0 : Nat) (l0 : List S24) (A1 : Option Addr) (c1 : Nat) (l1 : List S24) (m q : Int) (w : World) (hr0 : Kd.C k24 w A0 l0.length l0) (hc0 : l0.length ≤ c0) (hr1 : Kd.C k24 w A1 l1.length l1) (hc1 : l1.length ≤ c1) (hs : atriumref10_Sorted.f k l0 = some false) :
    Calls Try.prog 10 #[.agg #[.slice A0 l0.length c0, .slice A1 l1.length c1], .agg #[.int .u64 m, .int .u64 q]] w fun e w' => e = .returned (.bool true) ∧ Below w.heap.size w w' := by
  have HR0 := Aside0.mk hr0
  have HR1 := Aside0.mk hr1
  have HS := Aside0.mk hs
  skip
  clear hr0 hr1 hs
  go_enter Try.func10, Try.ntmps10
  have t0 : True := trivial
  go_wp2_with (first
    | (go_at_call 11; have _t := t0; refine (atriumlaw10_awake.calls true _ rfl).mono ?_; rintro e wa ⟨rfl, hb⟩; have HB := Aside0.mk hb; obtain ⟨⟨b1a, b1b⟩, b1c, b1d⟩ := thin_boxes HB.out; have t1 : True := trivial; clear hb _t t0)
    | (go_at_call 15; have _t := t1; refine (atriumref10_Sorted.calls k _ _ l0 false _ (Kd.C_below HR0.out (below_w2 HB.out)) hc0 HS.out).mono ?_; rintro e wb ⟨rfl, hb⟩; have HB2 := Aside0.mk (HB.out.trans (hb.mono HB.out.size)); have t3 : True := trivial; clear hb _t t1)
    | (go_at_call 11; have _t := t3; refine (atriumlaw10_awake.calls true _ rfl).mono ?_; rintro e wz ⟨rfl, hb⟩; have HBZ := Aside0.mk (HB2.out.trans (hb.mono HB2.out.size)); clear hb _t t3))
  go_ret
  exact ⟨rfl, below_w2 HBZ.out⟩
set_option maxHeartbeats 4000000 in
set_option maxRecDepth 100000 in
theorem thins_no1 (k : Nat) (A0 : Option Addr) (c0 : Nat) (l0 : List S24) (A1 : Option Addr) (c1 : Nat) (l1 : List S24) (m q : Int) (w : World) (hr0 : Kd.C k24 w A0 l0.length l0) (hc0 : l0.length ≤ c0) (hr1 : Kd.C k24 w A1 l1.length l1) (hc1 : l1.length ≤ c1) (hs : atriumref10_Sorted.f k l0 = some true) (hs1 : atriumref10_Sorted.f k l1 = some false) :
    Calls Try.prog 10 #[.agg #[.slice A0 l0.length c0, .slice A1 l1.length c1], .agg #[.int .u64 m, .int .u64 q]] w fun e w' => e = .returned (.bool true) ∧ Below w.heap.size w w' := by
  have HR0 := Aside0.mk hr0
  have HR1 := Aside0.mk hr1
  have HS := Aside0.mk hs
  have HS1 := Aside0.mk hs1
  clear hr0 hr1 hs hs1
  go_enter Try.func10, Try.ntmps10
  have t0 : True := trivial
  go_wp2_with (first
    | (go_at_call 11; have _t := t0; refine (atriumlaw10_awake.calls true _ rfl).mono ?_; rintro e wa ⟨rfl, hb⟩; have HB := Aside0.mk hb; obtain ⟨⟨b1a, b1b⟩, b1c, b1d⟩ := thin_boxes HB.out; have t1 : True := trivial; clear hb _t t0)
    | (go_at_call 15; have _t := t1; refine (atriumref10_Sorted.calls k _ _ l0 true _ (Kd.C_below HR0.out (below_w2 HB.out)) hc0 HS.out).mono ?_; rintro e wb ⟨rfl, hb⟩; have HB2 := Aside0.mk (HB.out.trans (hb.mono HB.out.size)); obtain ⟨⟨b2a, b2b⟩, b2c, b2d⟩ := thin_boxes HB2.out; have t2 : True := trivial; clear hb _t t1)
    | (go_at_call 15; have _t := t2; refine (atriumref10_Sorted.calls k _ _ l1 false _ (Kd.C_below HR1.out (below_w2 HB2.out)) hc1 HS1.out).mono ?_; rintro e wc ⟨rfl, hb⟩; have HB3 := Aside0.mk (HB2.out.trans (hb.mono HB2.out.size)); have t3 : True := trivial; clear hb _t t2)
    | (go_at_call 11; have _t := t3; refine (atriumlaw10_awake.calls true _ rfl).mono ?_; rintro e wz ⟨rfl, hb⟩; have HBZ := Aside0.mk (HB3.out.trans (hb.mono HB3.out.size)); clear hb _t t3))
  go_ret
  exact ⟨rfl, below_w2 HBZ.out⟩
set_option maxHeartbeats 4000000 in
set_option maxRecDepth 100000 in
theorem thins_lt (k : Nat) (A0 : Option Addr) (c0 : Nat) (l0 : List S24) (A1 : Option Addr) (c1 : Nat) (l1 : List S24) (m q : Int) (w : World) (hr0 : Kd.C k24 w A0 l0.length l0) (hc0 : l0.length ≤ c0) (hr1 : Kd.C k24 w A1 l1.length l1) (hc1 : l1.length ≤ c1) (hs : atriumref10_Sorted.f k l0 = some true) (hs1 : atriumref10_Sorted.f k l1 = some true)
    (hlt : m < q) (d M1 M2 V : List S24) (hd : merge_Drop.f l0 q false = some d) (hm1 : merge_Merge.f [d, l1] = some M1) (hm2 : merge_Merge.f [l0, l1] = some M2) (hv1 : merge_Visible.f M1 q = some V) (hv2 : merge_Visible.f M2 q = some V) (hsv : atriumlaw10_same.f k V V = some true) :
    Calls Try.prog 10 #[.agg #[.slice A0 l0.length c0, .slice A1 l1.length c1], .agg #[.int .u64 q, .int .u64 m]] w fun e w' => e = .returned (.bool true) ∧ Below w.heap.size w w' := by
  have HR0 := Aside0.mk hr0
  have HR1 := Aside0.mk hr1
  have HS := Aside0.mk hs
  have HS1 := Aside0.mk hs1
  have HD := Aside0.mk hd
  have HM1 := Aside0.mk hm1
  have HM2 := Aside0.mk hm2
  have HV1 := Aside0.mk hv1
  have HV2 := Aside0.mk hv2
  have HSV := Aside0.mk hsv
  clear hr0 hr1 hs hs1 hd hm1 hm2 hv1 hv2 hsv
  go_enter Try.func10, Try.ntmps10
  have t0 : True := trivial
  go_wp2_with (first
    | (go_at_call 11; have _t := t0; refine (atriumlaw10_awake.calls true _ rfl).mono ?_; rintro e wa ⟨rfl, hb⟩; have HB := Aside0.mk hb; obtain ⟨⟨b1a, b1b⟩, b1c, b1d⟩ := thin_boxes HB.out; have t1 : True := trivial; clear hb _t t0)
    | (go_at_call 15; have _t := t1; refine (atriumref10_Sorted.calls k _ _ l0 true _ (Kd.C_below HR0.out (below_w2 HB.out)) hc0 HS.out).mono ?_; rintro e wb ⟨rfl, hb⟩; have HB2 := Aside0.mk (HB.out.trans (hb.mono HB.out.size)); obtain ⟨⟨b2a, b2b⟩, b2c, b2d⟩ := thin_boxes HB2.out; have t2 : True := trivial; clear hb _t t1)
    | (go_at_call 15; have _t := t2; refine (atriumref10_Sorted.calls k _ _ l1 true _ (Kd.C_below HR1.out (below_w2 HB2.out)) hc1 HS1.out).mono ?_; rintro e wc ⟨rfl, hb⟩; have HB3 := Aside0.mk (HB2.out.trans (hb.mono HB2.out.size)); obtain ⟨⟨b3a, b3b⟩, b3c, b3d⟩ := thin_boxes HB3.out; have t3 : True := trivial; clear hb _t t2))
  go_quiet (fail)
  have HB4 := Aside0.mk (pw_below_drewN HB3.out nq)
  go_wp2_with (first
    | (go_at_call 23; have _t := t3; refine (merge_Drop.calls _ _ l0 _ false d _ (Kd.C_below HR0.out (below_w2 HB4.out)) hc0 HD.out).mono ?_; rintro e wd ⟨v1, rfl, hr, hb⟩; have HB5 := Aside0.mk (HB4.out.trans (hb.mono HB4.out.size)); obtain ⟨Ad, cd, rfl, hcd, hCd⟩ := Kd.R_reads hr; have HCD := Aside0.mk hCd; have HLD := Aside0.mk hcd; obtain ⟨⟨b5a, b5b⟩, b5c, b5d⟩ := thin_boxes HB5.out; have t4 : True := trivial; clear hb _t t3 hr hCd hcd)
    | (go_at_call 17; have _t := t4; refine (merge_Merge.calls _ _ [d, l1] M1 _ (C_lit2 d l1 (alloc_heap_new' wd _) (Kd.C_alloc HCD.out _) HLD.out (Kd.C_below HR1.out (below_alloc (below_w2 HB5.out) _)) hc1) (by simp) HM1.out).mono ?_; rintro e we ⟨v1, rfl, hr, hb⟩; have HB6 := Aside0.mk ((below_alloc HB5.out _).trans (hb.mono (below_alloc HB5.out _).size)); obtain ⟨A6, c6, rfl, hc6, hC6⟩ := Kd.R_reads hr; have HC6 := Aside0.mk hC6; have HL6 := Aside0.mk hc6; have t5 : True := trivial; clear hb _t t4 hr hC6 hc6)
    | (go_at_call 21; have _t := t5; refine (merge_Visible.calls _ _ M1 q V _ HC6.out HL6.out HV1.out).mono ?_; rintro e wf ⟨v1, rfl, hr, hb⟩; have HB7 := Aside0.mk (HB6.out.trans (hb.mono HB6.out.size)); obtain ⟨A7, c7, rfl, hc7, hC7⟩ := Kd.R_reads hr; have HC7 := Aside0.mk hC7; have HL7 := Aside0.mk hc7; obtain ⟨⟨b7a, b7b⟩, b7c, b7d⟩ := thin_boxes HB7.out; have t6 : True := trivial; clear hb _t t5 hr hC7 hc7)
    | (go_at_call 17; have _t := t6; refine (merge_Merge.calls _ _ [l0, l1] M2 _ (C_lit2 l0 l1 (alloc_heap_new' wf _) (Kd.C_below HR0.out (below_alloc (below_w2 HB7.out) _)) hc0 (Kd.C_below HR1.out (below_alloc (below_w2 HB7.out) _)) hc1) (by simp) HM2.out).mono ?_; rintro e wg ⟨v1, rfl, hr, hb⟩; have HB8 := Aside0.mk ((below_alloc HB7.out _).trans (hb.mono (below_alloc HB7.out _).size)); have HN8 := Aside0.mk ((below_alloc (Below.refl wf.heap.size wf) _).trans (hb.mono (below_alloc (Below.refl wf.heap.size wf) _).size)); obtain ⟨A8, c8, rfl, hc8, hC8⟩ := Kd.R_reads hr; have HC8 := Aside0.mk hC8; have HL8 := Aside0.mk hc8; have t7 : True := trivial; clear hb _t t6 hr hC8 hc8)
    | (go_at_call 21; have _t := t7; refine (merge_Visible.calls _ _ M2 q V _ HC8.out HL8.out HV2.out).mono ?_; rintro e wh ⟨v1, rfl, hr, hb⟩; have HB9 := Aside0.mk (HB8.out.trans (hb.mono HB8.out.size)); have HN9 := Aside0.mk (HN8.out.trans (hb.mono HN8.out.size)); obtain ⟨A9, c9, rfl, hc9, hC9⟩ := Kd.R_reads hr; have HC9 := Aside0.mk hC9; have HL9 := Aside0.mk hc9; have t8 : True := trivial; clear hb _t t7 hr hC9 hc9)
    | (go_at_call 18; have _t := t8; refine (atriumlaw10_same.calls k _ _ V _ _ V true _ (Kd.C_below HC7.out HN9.out) HL7.out HC9.out HL9.out HSV.out).mono ?_; rintro e wi ⟨rfl, hb⟩; have hb := hb.below; have HB10 := Aside0.mk (HB9.out.trans (hb.mono HB9.out.size)); clear hb _t t8))
  go_ret
  exact ⟨rfl, below_w2 HB10.out⟩
set_option maxHeartbeats 4000000 in
set_option maxRecDepth 100000 in
theorem thins_ge (k : Nat) (A0 : Option Addr) (c0 : Nat) (l0 : List S24) (A1 : Option Addr) (c1 : Nat) (l1 : List S24) (m q : Int) (w : World) (hr0 : Kd.C k24 w A0 l0.length l0) (hc0 : l0.length ≤ c0) (hr1 : Kd.C k24 w A1 l1.length l1) (hc1 : l1.length ≤ c1) (hs : atriumref10_Sorted.f k l0 = some true) (hs1 : atriumref10_Sorted.f k l1 = some true)
    (hlt : ¬ q < m) (d M1 M2 V : List S24) (hd : merge_Drop.f l0 m false = some d) (hm1 : merge_Merge.f [d, l1] = some M1) (hm2 : merge_Merge.f [l0, l1] = some M2) (hv1 : merge_Visible.f M1 q = some V) (hv2 : merge_Visible.f M2 q = some V) (hsv : atriumlaw10_same.f k V V = some true) :
    Calls Try.prog 10 #[.agg #[.slice A0 l0.length c0, .slice A1 l1.length c1], .agg #[.int .u64 m, .int .u64 q]] w fun e w' => e = .returned (.bool true) ∧ Below w.heap.size w w' := by
  have HR0 := Aside0.mk hr0
  have HR1 := Aside0.mk hr1
  have HS := Aside0.mk hs
  have HS1 := Aside0.mk hs1
  have HD := Aside0.mk hd
  have HM1 := Aside0.mk hm1
  have HM2 := Aside0.mk hm2
  have HV1 := Aside0.mk hv1
  have HV2 := Aside0.mk hv2
  have HSV := Aside0.mk hsv
  clear hr0 hr1 hs hs1 hd hm1 hm2 hv1 hv2 hsv
  go_enter Try.func10, Try.ntmps10
  have t0 : True := trivial
  go_wp2_with (first
    | (go_at_call 11; have _t := t0; refine (atriumlaw10_awake.calls true _ rfl).mono ?_; rintro e wa ⟨rfl, hb⟩; have HB := Aside0.mk hb; obtain ⟨⟨b1a, b1b⟩, b1c, b1d⟩ := thin_boxes HB.out; have t1 : True := trivial; clear hb _t t0)
    | (go_at_call 15; have _t := t1; refine (atriumref10_Sorted.calls k _ _ l0 true _ (Kd.C_below HR0.out (below_w2 HB.out)) hc0 HS.out).mono ?_; rintro e wb ⟨rfl, hb⟩; have HB2 := Aside0.mk (HB.out.trans (hb.mono HB.out.size)); obtain ⟨⟨b2a, b2b⟩, b2c, b2d⟩ := thin_boxes HB2.out; have t2 : True := trivial; clear hb _t t1)
    | (go_at_call 15; have _t := t2; refine (atriumref10_Sorted.calls k _ _ l1 true _ (Kd.C_below HR1.out (below_w2 HB2.out)) hc1 HS1.out).mono ?_; rintro e wc ⟨rfl, hb⟩; have HB3 := Aside0.mk (HB2.out.trans (hb.mono HB2.out.size)); obtain ⟨⟨b3a, b3b⟩, b3c, b3d⟩ := thin_boxes HB3.out; have t3 : True := trivial; clear hb _t t2))
  go_quiet (fail)
  have HB4 := Aside0.mk (pw_below_drewN HB3.out nq)
  go_wp2_with (first
    | (go_at_call 23; have _t := t3; refine (merge_Drop.calls _ _ l0 _ false d _ (Kd.C_below HR0.out (below_w2 HB4.out)) hc0 HD.out).mono ?_; rintro e wd ⟨v1, rfl, hr, hb⟩; have HB5 := Aside0.mk (HB4.out.trans (hb.mono HB4.out.size)); obtain ⟨Ad, cd, rfl, hcd, hCd⟩ := Kd.R_reads hr; have HCD := Aside0.mk hCd; have HLD := Aside0.mk hcd; obtain ⟨⟨b5a, b5b⟩, b5c, b5d⟩ := thin_boxes HB5.out; have t4 : True := trivial; clear hb _t t3 hr hCd hcd)
    | (go_at_call 17; have _t := t4; refine (merge_Merge.calls _ _ [d, l1] M1 _ (C_lit2 d l1 (alloc_heap_new' wd _) (Kd.C_alloc HCD.out _) HLD.out (Kd.C_below HR1.out (below_alloc (below_w2 HB5.out) _)) hc1) (by simp) HM1.out).mono ?_; rintro e we ⟨v1, rfl, hr, hb⟩; have HB6 := Aside0.mk ((below_alloc HB5.out _).trans (hb.mono (below_alloc HB5.out _).size)); obtain ⟨A6, c6, rfl, hc6, hC6⟩ := Kd.R_reads hr; have HC6 := Aside0.mk hC6; have HL6 := Aside0.mk hc6; have t5 : True := trivial; clear hb _t t4 hr hC6 hc6)
    | (go_at_call 21; have _t := t5; refine (merge_Visible.calls _ _ M1 q V _ HC6.out HL6.out HV1.out).mono ?_; rintro e wf ⟨v1, rfl, hr, hb⟩; have HB7 := Aside0.mk (HB6.out.trans (hb.mono HB6.out.size)); obtain ⟨A7, c7, rfl, hc7, hC7⟩ := Kd.R_reads hr; have HC7 := Aside0.mk hC7; have HL7 := Aside0.mk hc7; obtain ⟨⟨b7a, b7b⟩, b7c, b7d⟩ := thin_boxes HB7.out; have t6 : True := trivial; clear hb _t t5 hr hC7 hc7)
    | (go_at_call 17; have _t := t6; refine (merge_Merge.calls _ _ [l0, l1] M2 _ (C_lit2 l0 l1 (alloc_heap_new' wf _) (Kd.C_below HR0.out (below_alloc (below_w2 HB7.out) _)) hc0 (Kd.C_below HR1.out (below_alloc (below_w2 HB7.out) _)) hc1) (by simp) HM2.out).mono ?_; rintro e wg ⟨v1, rfl, hr, hb⟩; have HB8 := Aside0.mk ((below_alloc HB7.out _).trans (hb.mono (below_alloc HB7.out _).size)); have HN8 := Aside0.mk ((below_alloc (Below.refl wf.heap.size wf) _).trans (hb.mono (below_alloc (Below.refl wf.heap.size wf) _).size)); obtain ⟨A8, c8, rfl, hc8, hC8⟩ := Kd.R_reads hr; have HC8 := Aside0.mk hC8; have HL8 := Aside0.mk hc8; have t7 : True := trivial; clear hb _t t6 hr hC8 hc8)
    | (go_at_call 21; have _t := t7; refine (merge_Visible.calls _ _ M2 q V _ HC8.out HL8.out HV2.out).mono ?_; rintro e wh ⟨v1, rfl, hr, hb⟩; have HB9 := Aside0.mk (HB8.out.trans (hb.mono HB8.out.size)); have HN9 := Aside0.mk (HN8.out.trans (hb.mono HN8.out.size)); obtain ⟨A9, c9, rfl, hc9, hC9⟩ := Kd.R_reads hr; have HC9 := Aside0.mk hC9; have HL9 := Aside0.mk hc9; have t8 : True := trivial; clear hb _t t7 hr hC9 hc9)
    | (go_at_call 18; have _t := t8; refine (atriumlaw10_same.calls k _ _ V _ _ V true _ (Kd.C_below HC7.out HN9.out) HL7.out HC9.out HL9.out HSV.out).mono ?_; rintro e wi ⟨rfl, hb⟩; have hb := hb.below; have HB10 := Aside0.mk (HB9.out.trans (hb.mono HB9.out.size)); clear hb _t t8))
  go_ret
  exact ⟨rfl, below_w2 HB10.out⟩
end Go.Proofs.Ytdpnhnfhobmopaa.P
