/- The law MergeUnseen, walked. -/
import Derived.Test.YtdpnhnfhobmopaaH5
import Derived.Test.YtdpnhnfhobmopaaPL0a
namespace Go.Proofs.Ytdpnhnfhobmopaa.P
open Go.RowKit Go.Shelf Go.Proofs.YtdpnhnfhobmopaaW.PrintWords Go.Proofs.YtdpnhnfhobmopaaW.PrintLast Go.Proofs.YtdpnhnfhobmopaaW.PrintMore
set_option linter.unusedVariables false
set_option linter.unusedSimpArgs false
attribute [local go_sem high] eqA24

def eqB (x y : S24) : Bool := x.f0.toList == y.f0.toList && (x.f1 == y.f1 && (x.f2.toList == y.f2.toList && (x.f3 == y.f3)))
theorem eqB_self (x : S24) : eqB x x = true := by simp [eqB]
/-- What is left of d where its cells are looked for in l, one behind the other. -/
def leftIn : List S24 → List S24 → List S24
  | d, [] => d
  | [], _ :: _ => []
  | x :: d, y :: l => if eqB x y = true then leftIn d l else leftIn (x :: d) l
theorem leftIn_nil : ∀ l, leftIn [] l = []
  | [] => rfl
  | _ :: _ => rfl
theorem leftIn_sub : ∀ (l d e : List S24), d.Sublist l → (∃ p, d = p ++ e) → leftIn e l = []
  | [], d, e, hs, ⟨p, he⟩ => by
    have : d = [] := List.sublist_nil.1 hs
    subst this
    have : e = [] := (List.append_eq_nil_iff.1 he.symm).2
    subst this
    rfl
  | y :: l, d, e, hs, ⟨p, he⟩ => by
    cases e with
    | nil => rfl
    | cons x e =>
      unfold leftIn
      cases hs with
      | cons _ hs =>
        split
        · exact leftIn_sub l d e hs ⟨p ++ [x], by rw [he]; simp⟩
        · exact leftIn_sub l d (x :: e) hs ⟨p, he⟩
      | cons_cons _ hs =>
        rename_i d1
        cases p with
        | nil =>
          obtain ⟨rfl, rfl⟩ := List.cons.inj (by simpa using he)
          rw [if_pos (eqB_self _)]
          exact leftIn_sub l d1 d1 hs ⟨[], rfl⟩
        | cons q p =>
          have he' : d1 = p ++ x :: e := (List.cons.inj (by simpa using he)).2
          split
          · exact leftIn_sub l d1 e hs ⟨p ++ [x], by rw [he']; simp⟩
          · exact leftIn_sub l d1 (x :: e) hs ⟨p, he'⟩
set_option maxHeartbeats 4000000 in
set_option maxRecDepth 100000 in
theorem unseen_no (k : Nat) (A0 : Option Addr) (c0 : Nat) (l0 : List S24) (m0 m1 : Int) (b : Bool) (w : World) (hr0 : Kd.C k24 w A0 l0.length l0) (hc0 : l0.length ≤ c0) (hs : atriumref10_Sorted.f k l0 = some false) :
    Calls Try.prog 8 #[.slice A0 l0.length c0, .agg #[.int .u64 m0, .int .u64 m1], .bool b] w fun e w' => e = .returned (.bool true) ∧ Below w.heap.size w w' := by
  have HR0 := Aside0.mk hr0
  have HS := Aside0.mk hs
  clear hr0 hs
  go_enter Try.func8, Try.ntmps8
  go_wp2_with fail
  go_quiet (fail)
  have t0 : True := trivial
  go_wp2_with (first
    | (go_at_call 11; have _t := t0; refine (atriumlaw10_awake.calls true _ rfl).mono ?_; rintro e wa ⟨rfl, hb⟩; have HB := Aside0.mk ((pw_below_drewN (below_alloc (Below.refl w.heap.size w) (.cells #[.int .u64 m0, .int .u64 m1] 45)) nq).trans (hb.mono (by simp))); have t1 : True := trivial; clear hb _t t0)
    | (go_at_call 15; have _t := t1; refine (atriumref10_Sorted.calls k _ _ l0 false _ (Kd.C_below HR0.out HB.out) hc0 HS.out).mono ?_; rintro e wb ⟨rfl, hb⟩; have HB2 := Aside0.mk (HB.out.trans (hb.mono HB.out.size)); have t2 : True := trivial; clear hb _t t1)
    | (go_at_call 11; have _t := t2; refine (atriumlaw10_awake.calls true _ rfl).mono ?_; rintro e wc ⟨rfl, hb⟩; have HB3 := Aside0.mk (HB2.out.trans (hb.mono HB2.out.size)); clear hb _t t2))
  go_ret
  exact ⟨rfl, HB3.out⟩
set_option maxHeartbeats 4000000 in
set_option maxRecDepth 100000 in
theorem unseen_lt (k : Nat) (A0 : Option Addr) (c0 : Nat) (l0 : List S24) (m q : Int) (b : Bool) (w : World) (hr0 : Kd.C k24 w A0 l0.length l0) (hc0 : l0.length ≤ c0) (hll : l0.length ≤ 2932031007317) (hs : atriumref10_Sorted.f k l0 = some true)
    (hlt : m < q) (d V : List S24) (hd : merge_Drop.f l0 q b = some d) (hdl : d.length ≤ l0.length) (hds : merge_Sorted.f k d = some true) (hdd : merge_Drop.f d q b = some d) (hsd : atriumlaw10_same.f k d d = some true)
    (hsub : leftIn d l0 = []) (hv1 : merge_Visible.f d q = some V) (hv2 : merge_Visible.f l0 q = some V) (hsv : atriumlaw10_same.f k V V = some true) :
    Calls Try.prog 8 #[.slice A0 l0.length c0, .agg #[.int .u64 q, .int .u64 m], .bool b] w fun e w' => e = .returned (.bool true) ∧ Below w.heap.size w w' := by
  have HR0 := Aside0.mk hr0
  have HS := Aside0.mk hs
  have HD := Aside0.mk hd
  have HDS := Aside0.mk hds
  have HDD := Aside0.mk hdd
  have HSD := Aside0.mk hsd
  have HSUB := Aside0.mk hsub
  have HV1 := Aside0.mk hv1
  have HV2 := Aside0.mk hv2
  have HSV := Aside0.mk hsv
  clear hr0 hs hd hds hdd hsd hsub hv1 hv2 hsv
  obtain ⟨dl, hdle⟩ : ∃ dl, d.length = dl := ⟨_, rfl⟩
  rw [hdle] at hdl
  have HDL := Aside0.mk hdle
  clear hdle
  go_enter Try.func8, Try.ntmps8
  go_wp2_with fail
  go_quiet (fail)
  have t0 : True := trivial
  go_wp2_with (first
    | (go_at_call 11; have _t := t0; refine (atriumlaw10_awake.calls true _ rfl).mono ?_; rintro e wa ⟨rfl, hb⟩; have HB := Aside0.mk ((pw_below_drewN (below_alloc (Below.refl w.heap.size w) (.cells #[.int .u64 q, .int .u64 m] 45)) nq).trans (hb.mono (by simp))); have t1 : True := trivial; clear hb _t t0)
    | (go_at_call 15; have _t := t1; refine (atriumref10_Sorted.calls k _ _ l0 true _ (Kd.C_below HR0.out HB.out) hc0 HS.out).mono ?_; rintro e wb ⟨rfl, hb⟩; have HB2 := Aside0.mk (HB.out.trans (hb.mono HB.out.size)); have t2 : True := trivial; clear hb _t t1)
    | (go_at_call 23; have _t := t2; refine (merge_Drop.calls _ _ l0 _ b d _ (Kd.C_below HR0.out HB2.out) hc0 HD.out).mono ?_; rintro e wd ⟨v1, rfl, hr, hb⟩; have HB3 := Aside0.mk (HB2.out.trans (hb.mono HB2.out.size)); obtain ⟨Ad, cd, rfl, hcd, hCd⟩ := Kd.R_reads hr; rw [HDL.out]; have HCD := Aside0.mk hCd; have HLD := Aside0.mk hcd; have t3 : True := trivial; clear hb _t t2 hr hCd hcd)
    | (go_at_call 14; have _t := t3; rw [← HDL.out]; refine (merge_Sorted.calls k _ _ d true _ HCD.out HLD.out HDS.out).mono ?_; rintro e we ⟨rfl, hb⟩; have HB4 := Aside0.mk (HB3.out.trans (hb.mono HB3.out.size)); have HN4 := Aside0.mk hb; rw [HDL.out]; have t4 : True := trivial; clear hb _t t3)
    | (go_at_call 23; have _t := t4; rw [← HDL.out]; refine (merge_Drop.calls _ _ d _ b d _ (Kd.C_below HCD.out HN4.out) HLD.out HDD.out).mono ?_; rintro e wf ⟨v1, rfl, hr, hb⟩; have HB5 := Aside0.mk (HB4.out.trans (hb.mono HB4.out.size)); have HN5 := Aside0.mk (HN4.out.trans (hb.mono HN4.out.size)); obtain ⟨A6, c6, rfl, hc6, hC6⟩ := Kd.R_reads hr; rw [HDL.out]; have HC6 := Aside0.mk hC6; have HL6 := Aside0.mk hc6; have t5 : True := trivial; clear hb _t t4 hr hC6 hc6)
    | (go_at_call 18; have _t := t5; rw [← HDL.out]; refine (atriumlaw10_same.calls k _ _ d _ _ d true _ HC6.out HL6.out (Kd.C_below HCD.out HN5.out) HLD.out HSD.out).mono ?_; rintro e wg ⟨rfl, hb⟩; have hb := hb.below; have HB6 := Aside0.mk (HB5.out.trans (hb.mono HB5.out.size)); have HN6 := Aside0.mk (HN5.out.trans (hb.mono HN5.out.size)); rw [HDL.out]; have t6 : True := trivial; clear hb _t t5))
  go_loopg [10, 54] l0.length (fun kq v10 v54 w' => ∃ (j i : Nat), v10 = .int .i64 j ∧ v54 = .int .i64 i ∧ i ≤ l0.length ∧ j ≤ dl ∧ Aside0 (kq = l0.length - i) ∧ Aside0 (leftIn (d.drop j) (l0.drop i) = []) ∧ Aside0 (Below w.heap.size w w') ∧ Aside0 (Below wd.heap.size wd w'))
  case atStart => exact ⟨0, 0, rfl, rfl, Nat.zero_le _, Nat.zero_le _, ⟨rfl⟩, HSUB, HB6, HN6⟩
  case round =>
    obtain ⟨j, i, rfl, rfl, hi, hj, HK, HLE, HBW, HBN⟩ := hrel
    by_cases hil : i < l0.length
    · obtain ⟨k1, rfl⟩ : ∃ k1, gk = k1 + 1 := ⟨gk - 1, by have := HK.out; omega⟩
      have HK1 := Aside0.mk (show k1 = l0.length - (i + 1) by have := HK.out; omega)
      obtain ⟨ad, ea, x0, x1, x2, x3⟩ := at_T24 (Kd.C_below HR0.out HBW.out) (i : Int) (Int.natCast_nonneg _) (by omega)
      subst ea
      rw [Int.toNat_natCast] at x0 x1 x2 x3
      obtain ⟨x, hx⟩ : ∃ x, rd_T24 l0 (i : Int) = x := ⟨_, rfl⟩
      rw [hx] at x0 x1 x2 x3
      have hdr : l0.drop i = x :: l0.drop (i + 1) := by rw [← hx, rd24_getElem l0 i hil]; exact List.drop_eq_getElem_cons hil
      have HDR := Aside0.mk hdr
      clear hx hdr
      by_cases hjl : j < dl
      · obtain ⟨ad2, ea2, y0, y1, y2, y3⟩ := at_T24 (Kd.C_below HCD.out (below_alloc HBN.out (.cells #[.string x.f0, .int .u64 x.f1, .string x.f2, .bool x.f3] 24))) (j : Int) (Int.natCast_nonneg _) (by have := HDL.out; omega)
        subst ea2
        rw [Int.toNat_natCast] at y0 y1 y2 y3
        obtain ⟨y, hy⟩ : ∃ y, rd_T24 d (j : Int) = y := ⟨_, rfl⟩
        rw [hy] at y0 y1 y2 y3
        have hdj : d.drop j = y :: d.drop (j + 1) := by rw [← hy, rd24_getElem d j (by have := HDL.out; omega)]; exact List.drop_eq_getElem_cons (by have := HDL.out; omega)
        have hle := HLE.out
        rw [hdj, HDR.out] at hle
        unfold leftIn at hle
        have HDJ := Aside0.mk hdj
        clear hdj hy
        by_cases he : eqB y x = true
        · rw [if_pos he] at hle
          have HLE2 := Aside0.mk hle
          have he1 : (y.f0.toList == x.f0.toList && (y.f1 == x.f1 && (y.f2.toList == x.f2.toList && (y.f3 == x.f3)))) = true := he
          clear hle he
          go_wp2_with fail
          go_quiet (fail)
          (try rw [he1])
          go_wp2_with fail
          go_roundg k1
          case measure => omega
          case rel => exact ⟨j + 1, i + 1, by first | rfl | (congr 1; omega) | (simp; done), by first | rfl | (congr 1; omega) | (simp; done), by omega, by omega, HK1, HLE2, ⟨pw_below_drewN (below_alloc HBW.out _) _⟩, ⟨pw_below_drewN (below_alloc HBN.out _) _⟩⟩
        · rw [if_neg he] at hle
          rw [← HDJ.out] at hle
          have HLE2 := Aside0.mk hle
          have he1 : (y.f0.toList == x.f0.toList && (y.f1 == x.f1 && (y.f2.toList == x.f2.toList && (y.f3 == x.f3)))) = false := Bool.eq_false_iff.mpr he
          clear hle he
          go_wp2_with fail
          go_quiet (fail)
          (try rw [he1])
          go_wp2_with fail
          go_roundg k1
          case measure => omega
          case rel => exact ⟨j, i + 1, rfl, by first | rfl | (congr 1; omega) | (simp; done), by omega, by omega, HK1, HLE2, ⟨pw_below_drewN (below_alloc HBW.out _) _⟩, ⟨pw_below_drewN (below_alloc HBN.out _) _⟩⟩
      · obtain rfl : j = dl := by omega
        have hjf : decide ((j : Int) < (j : Int)) = false := decide_eq_false (by omega)
        have HLE2 := Aside0.mk (show leftIn (d.drop j) (l0.drop (i + 1)) = [] by rw [List.drop_eq_nil_of_le (by have := HDL.out; omega)]; exact leftIn_nil _)
        go_wp2_with fail
        go_quiet (fail)
        go_wp2_with fail
        go_roundg k1
        case measure => omega
        case rel => exact ⟨j, i + 1, rfl, by first | rfl | (congr 1; omega) | (simp; done), by omega, Nat.le_refl _, HK1, HLE2, ⟨pw_below_drewN (below_alloc HBW.out _) _⟩, ⟨pw_below_drewN (below_alloc HBN.out _) _⟩⟩
    · obtain rfl : i = l0.length := by omega
      have hjd : j = dl := by
        have h := HLE.out
        rw [List.drop_eq_nil_of_le (Nat.le_refl _)] at h
        have h2 : leftIn (d.drop j) [] = d.drop j := by cases d.drop j <;> rfl
        rw [h2] at h
        have h3 := congrArg List.length h
        rw [List.length_drop, HDL.out] at h3
        simp at h3
        omega
      subst hjd
      have t8 : True := trivial
      go_wp2_with (first
        | (go_at_call 21; have _t := t8; rw [← HDL.out]; refine (merge_Visible.calls _ _ d q V _ (Kd.C_below HCD.out HBN.out) HLD.out HV1.out).mono ?_; rintro e wh ⟨v1, rfl, hr, hb⟩; have HB8 := Aside0.mk (HBW.out.trans (hb.mono HBW.out.size)); obtain ⟨A8, c8, rfl, hc8, hC8⟩ := Kd.R_reads hr; have HC8 := Aside0.mk hC8; have HL8 := Aside0.mk hc8; rw [HDL.out]; have t9 : True := trivial; clear hb _t t8 hr hC8 hc8)
        | (go_at_call 21; have _t := t9; refine (merge_Visible.calls _ _ l0 q V _ (Kd.C_below HR0.out HB8.out) hc0 HV2.out).mono ?_; rintro e wi ⟨v1, rfl, hr, hb⟩; have HB9 := Aside0.mk (HB8.out.trans (hb.mono HB8.out.size)); have HN9 := Aside0.mk hb; obtain ⟨A9, c9, rfl, hc9, hC9⟩ := Kd.R_reads hr; have HC9 := Aside0.mk hC9; have HL9 := Aside0.mk hc9; have t10 : True := trivial; clear hb _t t9 hr hC9 hc9)
        | (go_at_call 18; have _t := t10; refine (atriumlaw10_same.calls k _ _ V _ _ V true _ (Kd.C_below HC8.out HN9.out) HL8.out HC9.out HL9.out HSV.out).mono ?_; rintro e wj ⟨rfl, hb⟩; have hb := hb.below; have HB10 := Aside0.mk (HB9.out.trans (hb.mono HB9.out.size)); clear hb _t t10))
      go_ret
      exact ⟨rfl, HB10.out⟩
set_option maxHeartbeats 4000000 in
set_option maxRecDepth 100000 in
theorem unseen_ge (k : Nat) (A0 : Option Addr) (c0 : Nat) (l0 : List S24) (m q : Int) (b : Bool) (w : World) (hr0 : Kd.C k24 w A0 l0.length l0) (hc0 : l0.length ≤ c0) (hll : l0.length ≤ 2932031007317) (hs : atriumref10_Sorted.f k l0 = some true)
    (hlt : ¬ q < m) (d V : List S24) (hd : merge_Drop.f l0 m b = some d) (hdl : d.length ≤ l0.length) (hds : merge_Sorted.f k d = some true) (hdd : merge_Drop.f d m b = some d) (hsd : atriumlaw10_same.f k d d = some true)
    (hsub : leftIn d l0 = []) (hv1 : merge_Visible.f d q = some V) (hv2 : merge_Visible.f l0 q = some V) (hsv : atriumlaw10_same.f k V V = some true) :
    Calls Try.prog 8 #[.slice A0 l0.length c0, .agg #[.int .u64 m, .int .u64 q], .bool b] w fun e w' => e = .returned (.bool true) ∧ Below w.heap.size w w' := by
  have HR0 := Aside0.mk hr0
  have HS := Aside0.mk hs
  have HD := Aside0.mk hd
  have HDS := Aside0.mk hds
  have HDD := Aside0.mk hdd
  have HSD := Aside0.mk hsd
  have HSUB := Aside0.mk hsub
  have HV1 := Aside0.mk hv1
  have HV2 := Aside0.mk hv2
  have HSV := Aside0.mk hsv
  clear hr0 hs hd hds hdd hsd hsub hv1 hv2 hsv
  obtain ⟨dl, hdle⟩ : ∃ dl, d.length = dl := ⟨_, rfl⟩
  rw [hdle] at hdl
  have HDL := Aside0.mk hdle
  clear hdle
  go_enter Try.func8, Try.ntmps8
  go_wp2_with fail
  go_quiet (fail)
  have t0 : True := trivial
  go_wp2_with (first
    | (go_at_call 11; have _t := t0; refine (atriumlaw10_awake.calls true _ rfl).mono ?_; rintro e wa ⟨rfl, hb⟩; have HB := Aside0.mk ((pw_below_drewN (below_alloc (Below.refl w.heap.size w) (.cells #[.int .u64 m, .int .u64 q] 45)) nq).trans (hb.mono (by simp))); have t1 : True := trivial; clear hb _t t0)
    | (go_at_call 15; have _t := t1; refine (atriumref10_Sorted.calls k _ _ l0 true _ (Kd.C_below HR0.out HB.out) hc0 HS.out).mono ?_; rintro e wb ⟨rfl, hb⟩; have HB2 := Aside0.mk (HB.out.trans (hb.mono HB.out.size)); have t2 : True := trivial; clear hb _t t1)
    | (go_at_call 23; have _t := t2; refine (merge_Drop.calls _ _ l0 _ b d _ (Kd.C_below HR0.out HB2.out) hc0 HD.out).mono ?_; rintro e wd ⟨v1, rfl, hr, hb⟩; have HB3 := Aside0.mk (HB2.out.trans (hb.mono HB2.out.size)); obtain ⟨Ad, cd, rfl, hcd, hCd⟩ := Kd.R_reads hr; rw [HDL.out]; have HCD := Aside0.mk hCd; have HLD := Aside0.mk hcd; have t3 : True := trivial; clear hb _t t2 hr hCd hcd)
    | (go_at_call 14; have _t := t3; rw [← HDL.out]; refine (merge_Sorted.calls k _ _ d true _ HCD.out HLD.out HDS.out).mono ?_; rintro e we ⟨rfl, hb⟩; have HB4 := Aside0.mk (HB3.out.trans (hb.mono HB3.out.size)); have HN4 := Aside0.mk hb; rw [HDL.out]; have t4 : True := trivial; clear hb _t t3)
    | (go_at_call 23; have _t := t4; rw [← HDL.out]; refine (merge_Drop.calls _ _ d _ b d _ (Kd.C_below HCD.out HN4.out) HLD.out HDD.out).mono ?_; rintro e wf ⟨v1, rfl, hr, hb⟩; have HB5 := Aside0.mk (HB4.out.trans (hb.mono HB4.out.size)); have HN5 := Aside0.mk (HN4.out.trans (hb.mono HN4.out.size)); obtain ⟨A6, c6, rfl, hc6, hC6⟩ := Kd.R_reads hr; rw [HDL.out]; have HC6 := Aside0.mk hC6; have HL6 := Aside0.mk hc6; have t5 : True := trivial; clear hb _t t4 hr hC6 hc6)
    | (go_at_call 18; have _t := t5; rw [← HDL.out]; refine (atriumlaw10_same.calls k _ _ d _ _ d true _ HC6.out HL6.out (Kd.C_below HCD.out HN5.out) HLD.out HSD.out).mono ?_; rintro e wg ⟨rfl, hb⟩; have hb := hb.below; have HB6 := Aside0.mk (HB5.out.trans (hb.mono HB5.out.size)); have HN6 := Aside0.mk (HN5.out.trans (hb.mono HN5.out.size)); rw [HDL.out]; have t6 : True := trivial; clear hb _t t5))
  go_loopg [10, 54] l0.length (fun kq v10 v54 w' => ∃ (j i : Nat), v10 = .int .i64 j ∧ v54 = .int .i64 i ∧ i ≤ l0.length ∧ j ≤ dl ∧ Aside0 (kq = l0.length - i) ∧ Aside0 (leftIn (d.drop j) (l0.drop i) = []) ∧ Aside0 (Below w.heap.size w w') ∧ Aside0 (Below wd.heap.size wd w'))
  case atStart => exact ⟨0, 0, rfl, rfl, Nat.zero_le _, Nat.zero_le _, ⟨rfl⟩, HSUB, HB6, HN6⟩
  case round =>
    obtain ⟨j, i, rfl, rfl, hi, hj, HK, HLE, HBW, HBN⟩ := hrel
    by_cases hil : i < l0.length
    · obtain ⟨k1, rfl⟩ : ∃ k1, gk = k1 + 1 := ⟨gk - 1, by have := HK.out; omega⟩
      have HK1 := Aside0.mk (show k1 = l0.length - (i + 1) by have := HK.out; omega)
      obtain ⟨ad, ea, x0, x1, x2, x3⟩ := at_T24 (Kd.C_below HR0.out HBW.out) (i : Int) (Int.natCast_nonneg _) (by omega)
      subst ea
      rw [Int.toNat_natCast] at x0 x1 x2 x3
      obtain ⟨x, hx⟩ : ∃ x, rd_T24 l0 (i : Int) = x := ⟨_, rfl⟩
      rw [hx] at x0 x1 x2 x3
      have hdr : l0.drop i = x :: l0.drop (i + 1) := by rw [← hx, rd24_getElem l0 i hil]; exact List.drop_eq_getElem_cons hil
      have HDR := Aside0.mk hdr
      clear hx hdr
      by_cases hjl : j < dl
      · obtain ⟨ad2, ea2, y0, y1, y2, y3⟩ := at_T24 (Kd.C_below HCD.out (below_alloc HBN.out (.cells #[.string x.f0, .int .u64 x.f1, .string x.f2, .bool x.f3] 24))) (j : Int) (Int.natCast_nonneg _) (by have := HDL.out; omega)
        subst ea2
        rw [Int.toNat_natCast] at y0 y1 y2 y3
        obtain ⟨y, hy⟩ : ∃ y, rd_T24 d (j : Int) = y := ⟨_, rfl⟩
        rw [hy] at y0 y1 y2 y3
        have hdj : d.drop j = y :: d.drop (j + 1) := by rw [← hy, rd24_getElem d j (by have := HDL.out; omega)]; exact List.drop_eq_getElem_cons (by have := HDL.out; omega)
        have hle := HLE.out
        rw [hdj, HDR.out] at hle
        unfold leftIn at hle
        have HDJ := Aside0.mk hdj
        clear hdj hy
        by_cases he : eqB y x = true
        · rw [if_pos he] at hle
          have HLE2 := Aside0.mk hle
          have he1 : (y.f0.toList == x.f0.toList && (y.f1 == x.f1 && (y.f2.toList == x.f2.toList && (y.f3 == x.f3)))) = true := he
          clear hle he
          go_wp2_with fail
          go_quiet (fail)
          (try rw [he1])
          go_wp2_with fail
          go_roundg k1
          case measure => omega
          case rel => exact ⟨j + 1, i + 1, by first | rfl | (congr 1; omega) | (simp; done), by first | rfl | (congr 1; omega) | (simp; done), by omega, by omega, HK1, HLE2, ⟨pw_below_drewN (below_alloc HBW.out _) _⟩, ⟨pw_below_drewN (below_alloc HBN.out _) _⟩⟩
        · rw [if_neg he] at hle
          rw [← HDJ.out] at hle
          have HLE2 := Aside0.mk hle
          have he1 : (y.f0.toList == x.f0.toList && (y.f1 == x.f1 && (y.f2.toList == x.f2.toList && (y.f3 == x.f3)))) = false := Bool.eq_false_iff.mpr he
          clear hle he
          go_wp2_with fail
          go_quiet (fail)
          (try rw [he1])
          go_wp2_with fail
          go_roundg k1
          case measure => omega
          case rel => exact ⟨j, i + 1, rfl, by first | rfl | (congr 1; omega) | (simp; done), by omega, by omega, HK1, HLE2, ⟨pw_below_drewN (below_alloc HBW.out _) _⟩, ⟨pw_below_drewN (below_alloc HBN.out _) _⟩⟩
      · obtain rfl : j = dl := by omega
        have hjf : decide ((j : Int) < (j : Int)) = false := decide_eq_false (by omega)
        have HLE2 := Aside0.mk (show leftIn (d.drop j) (l0.drop (i + 1)) = [] by rw [List.drop_eq_nil_of_le (by have := HDL.out; omega)]; exact leftIn_nil _)
        go_wp2_with fail
        go_quiet (fail)
        go_wp2_with fail
        go_roundg k1
        case measure => omega
        case rel => exact ⟨j, i + 1, rfl, by first | rfl | (congr 1; omega) | (simp; done), by omega, Nat.le_refl _, HK1, HLE2, ⟨pw_below_drewN (below_alloc HBW.out _) _⟩, ⟨pw_below_drewN (below_alloc HBN.out _) _⟩⟩
    · obtain rfl : i = l0.length := by omega
      have hjd : j = dl := by
        have h := HLE.out
        rw [List.drop_eq_nil_of_le (Nat.le_refl _)] at h
        have h2 : leftIn (d.drop j) [] = d.drop j := by cases d.drop j <;> rfl
        rw [h2] at h
        have h3 := congrArg List.length h
        rw [List.length_drop, HDL.out] at h3
        simp at h3
        omega
      subst hjd
      have t8 : True := trivial
      go_wp2_with (first
        | (go_at_call 21; have _t := t8; rw [← HDL.out]; refine (merge_Visible.calls _ _ d q V _ (Kd.C_below HCD.out HBN.out) HLD.out HV1.out).mono ?_; rintro e wh ⟨v1, rfl, hr, hb⟩; have HB8 := Aside0.mk (HBW.out.trans (hb.mono HBW.out.size)); obtain ⟨A8, c8, rfl, hc8, hC8⟩ := Kd.R_reads hr; have HC8 := Aside0.mk hC8; have HL8 := Aside0.mk hc8; rw [HDL.out]; have t9 : True := trivial; clear hb _t t8 hr hC8 hc8)
        | (go_at_call 21; have _t := t9; refine (merge_Visible.calls _ _ l0 q V _ (Kd.C_below HR0.out HB8.out) hc0 HV2.out).mono ?_; rintro e wi ⟨v1, rfl, hr, hb⟩; have HB9 := Aside0.mk (HB8.out.trans (hb.mono HB8.out.size)); have HN9 := Aside0.mk hb; obtain ⟨A9, c9, rfl, hc9, hC9⟩ := Kd.R_reads hr; have HC9 := Aside0.mk hC9; have HL9 := Aside0.mk hc9; have t10 : True := trivial; clear hb _t t9 hr hC9 hc9)
        | (go_at_call 18; have _t := t10; refine (atriumlaw10_same.calls k _ _ V _ _ V true _ (Kd.C_below HC8.out HN9.out) HL8.out HC9.out HL9.out HSV.out).mono ?_; rintro e wj ⟨rfl, hb⟩; have hb := hb.below; have HB10 := Aside0.mk (HB9.out.trans (hb.mono HB9.out.size)); clear hb _t t10))
      go_ret
      exact ⟨rfl, HB10.out⟩
end Go.Proofs.Ytdpnhnfhobmopaa.P
