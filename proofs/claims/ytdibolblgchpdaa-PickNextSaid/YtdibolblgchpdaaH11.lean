/- Contracts proved by hand: the reference's Next. -/
import Derived.Test.YtdibolblgchpdaaH10
import Derived.Test.YtdibolblgchpdaaPSq
import Derived.Test.YtdibolblgchpdaaPL0c
import Derived.Test.YtdibolblgchpdaaPL0e
import Derived.Test.YtdibolblgchpdaaPL0f
import Derived.Deep.DeepCutAuto
namespace Go.Proofs.Ytdibolblgchpdaa.P
open Go.RowKit Go.Proofs.YtdibolblgchpdaaW.PrintWords Go.Proofs.YtdibolblgchpdaaW.PrintLast Go.Proofs.YtdibolblgchpdaaW.PrintMore
attribute [local go_sem] Oper.semAt_some
set_option linter.unusedVariables false
set_option linter.unusedSimpArgs false

set_option maxHeartbeats 8000000 in
set_option maxRecDepth 100000 in
theorem rnext_no1 (A : Option Addr) (c : Nat) (ls : List (List S44)) (o0 o1 o2 o3 o4 o5 o6 : Int) (w : World) (hC : Kd.C (Kd.slice 44 k44) w A ls.length ls) (hc : ls.length ≤ c) (hr : atriumref12_Right.f ls = some false) :
  Calls Try.prog 10 #[.agg #[.slice A ls.length c], .agg #[.int .i64 o0, .int .i64 o1, .int .i64 o2, .int .i64 o3, .int .i64 o4, .int .i64 o5, .int .i64 o6]] w fun e w' => e = .returned (.tuple #[.agg #[.int .i64 0, .slice none 0 0, .bool false], .bool false]) ∧ Below w.heap.size w w' := by
 have HR := Aside0.mk hr
 have HC := Aside0.mk hC
 clear hr hC
 go_enter Try.func10, Try.ntmps10
 go_wp2_with (go_at_call 17; refine (atriumref12_Right.calls A c ls false _ (Kd.C_below HC.out (below_alloc (below_alloc (below_alloc (Below.refl _ _) _) _) _)) hc HR.out).mono ?_; rintro e w1 ⟨rfl, hb1⟩; obtain ⟨b2, b3, b4, hB, hS⟩ := w3_facts w A ls.length c o0 o1 o2 o3 o4 o5 o6 hb1; obtain ⟨x0, z0⟩ := blkc b4 0 rfl; obtain ⟨x1, z1⟩ := blkc b4 1 rfl; obtain ⟨x2, z2⟩ := blkc b4 2 rfl; have HB := Aside0.mk hB; have B4 := Aside0.mk b4; clear b2 b3 b4 hB hS; clear hb1)
 refine bodyPost_ret (results_ct rfl _ _ (w.heap.size + 1 + 1) 33 #[.int .i64 0, .slice none 0 0, .bool false] (0, 0) _ rfl (blk_put (blk_put (blk_put B4.out 0 _ rfl) 1 _ rfl) 2 _ rfl) Try.underlying33 rfl (by kernel_rfl)) rfl ?_
 exact ⟨rfl, below_set (below_set (below_set HB.out (by omega)) (by omega)) (by omega)⟩
set_option maxHeartbeats 8000000 in
set_option maxRecDepth 100000 in
theorem rnext_no2 (A : Option Addr) (c : Nat) (ls : List (List S44)) (o0 o1 o2 o3 o4 o5 o6 : Int) (w : World) (hC : Kd.C (Kd.slice 44 k44) w A ls.length ls) (hc : ls.length ≤ c) (hr : atriumref12_Right.f ls = some true) (hm : atriumref12_Options.f o0 o1 o2 o3 o4 o5 o6 = some false) :
  Calls Try.prog 10 #[.agg #[.slice A ls.length c], .agg #[.int .i64 o0, .int .i64 o1, .int .i64 o2, .int .i64 o3, .int .i64 o4, .int .i64 o5, .int .i64 o6]] w fun e w' => e = .returned (.tuple #[.agg #[.int .i64 0, .slice none 0 0, .bool false], .bool false]) ∧ Below w.heap.size w w' := by
 have HR := Aside0.mk hr
 have HC := Aside0.mk hC
 have HM := Aside0.mk hm
 clear hr hC hm
 go_enter Try.func10, Try.ntmps10
 go_wp2_with (first | (go_at_call 17; refine (atriumref12_Right.calls A c ls true _ (Kd.C_below HC.out (below_alloc (below_alloc (below_alloc (Below.refl _ _) _) _) _)) hc HR.out).mono ?_; rintro e w1 ⟨rfl, hb1⟩; obtain ⟨b2, b3, b4, hB, hS⟩ := w3_facts w A ls.length c o0 o1 o2 o3 o4 o5 o6 hb1; obtain ⟨p1, q1⟩ := blkc b2 0 rfl; have t10 := (blkc b3 0 rfl).1; have t11 := (blkc b3 1 rfl).1; have t12 := (blkc b3 2 rfl).1; have t13 := (blkc b3 3 rfl).1; have t14 := (blkc b3 4 rfl).1; have t15 := (blkc b3 5 rfl).1; have t16 := (blkc b3 6 rfl).1; have HB1 := Aside0.mk hB; have BW1 := Aside0.mk hb1; clear b2 b3 b4 hB hS q1; clear hb1) | (go_at_call 18; refine (atriumref12_Options.calls _ _ _ _ _ _ _ false _ HM.out).mono ?_; rintro e w2 ⟨rfl, hb⟩; have hb2 := BW1.out.trans (hb.mono BW1.out.size); clear hb; obtain ⟨b2, b3, b4, hB, hS⟩ := w3_facts w A ls.length c o0 o1 o2 o3 o4 o5 o6 hb2; obtain ⟨x0, z0⟩ := blkc b4 0 rfl; obtain ⟨x1, z1⟩ := blkc b4 1 rfl; obtain ⟨x2, z2⟩ := blkc b4 2 rfl; have HB := Aside0.mk hB; have B4 := Aside0.mk b4; clear b2 b3 b4 hB hS; clear hb2))
 refine bodyPost_ret (results_ct rfl _ _ (w.heap.size + 1 + 1) 33 #[.int .i64 0, .slice none 0 0, .bool false] (0, 0) _ rfl (blk_put (blk_put (blk_put B4.out 0 _ rfl) 1 _ rfl) 2 _ rfl) Try.underlying33 rfl (by kernel_rfl)) rfl ?_
 exact ⟨rfl, below_set (below_set (below_set HB.out (by omega)) (by omega)) (by omega)⟩
set_option maxHeartbeats 8000000 in
set_option maxRecDepth 100000 in
theorem rnext_no3 (k : Nat) (A : Option Addr) (c : Nat) (ls : List (List S44)) (o0 o1 o2 o3 o4 o5 o6 : Int) (w : World) (hC : Kd.C (Kd.slice 44 k44) w A ls.length ls) (hc : ls.length ≤ c) (hr : atriumref12_Right.f ls = some true) (hm : atriumref12_Options.f o0 o1 o2 o3 o4 o5 o6 = some true) (hf : atriumref12_full.f k ls o0 o1 o2 o3 o4 o5 o6 = some (-1)) :
  Calls Try.prog 10 #[.agg #[.slice A ls.length c], .agg #[.int .i64 o0, .int .i64 o1, .int .i64 o2, .int .i64 o3, .int .i64 o4, .int .i64 o5, .int .i64 o6]] w fun e w' => e = .returned (.tuple #[.agg #[.int .i64 0, .slice none 0 0, .bool false], .bool false]) ∧ Below w.heap.size w w' := by
 have HR := Aside0.mk hr
 have HC := Aside0.mk hC
 have HM := Aside0.mk hm
 have HF := Aside0.mk hf
 clear hr hC hm hf
 go_enter Try.func10, Try.ntmps10
 go_wp2_with (first | (go_at_call 17; refine (atriumref12_Right.calls A c ls true _ (Kd.C_below HC.out (below_alloc (below_alloc (below_alloc (Below.refl _ _) _) _) _)) hc HR.out).mono ?_; rintro e w1 ⟨rfl, hb1⟩; obtain ⟨b2, b3, b4, hB, hS⟩ := w3_facts w A ls.length c o0 o1 o2 o3 o4 o5 o6 hb1; obtain ⟨p1, q1⟩ := blkc b2 0 rfl; have t10 := (blkc b3 0 rfl).1; have t11 := (blkc b3 1 rfl).1; have t12 := (blkc b3 2 rfl).1; have t13 := (blkc b3 3 rfl).1; have t14 := (blkc b3 4 rfl).1; have t15 := (blkc b3 5 rfl).1; have t16 := (blkc b3 6 rfl).1; have HB1 := Aside0.mk hB; have BW1 := Aside0.mk hb1; clear b2 b3 b4 hB hS q1; clear hb1) | (go_at_call 18; refine (atriumref12_Options.calls _ _ _ _ _ _ _ true _ HM.out).mono ?_; rintro e w2 ⟨rfl, hb⟩; have hb2 := BW1.out.trans (hb.mono BW1.out.size); clear hb; obtain ⟨b2, b3, b4, hB, hS⟩ := w3_facts w A ls.length c o0 o1 o2 o3 o4 o5 o6 hb2; obtain ⟨p2, q2⟩ := blkc b2 0 rfl; have t20 := (blkc b3 0 rfl).1; have t21 := (blkc b3 1 rfl).1; have t22 := (blkc b3 2 rfl).1; have t23 := (blkc b3 3 rfl).1; have t24 := (blkc b3 4 rfl).1; have t25 := (blkc b3 5 rfl).1; have t26 := (blkc b3 6 rfl).1; have HB2 := Aside0.mk hB; have BW2 := Aside0.mk hb2; clear b2 b3 b4 hB hS q2; clear hb2) | (go_at_call 37; refine (atriumref12_full.calls k A c ls o0 o1 o2 o3 o4 o5 o6 (-1) _ (Kd.C_below HC.out HB2.out) hc HF.out).mono ?_; rintro e w3 ⟨rfl, hb⟩; have hb3 := BW2.out.trans (hb.mono BW2.out.size); clear hb; obtain ⟨b2, b3, b4, hB, hS⟩ := w3_facts w A ls.length c o0 o1 o2 o3 o4 o5 o6 hb3; obtain ⟨x0, z0⟩ := blkc b4 0 rfl; obtain ⟨x1, z1⟩ := blkc b4 1 rfl; obtain ⟨x2, z2⟩ := blkc b4 2 rfl; have HB := Aside0.mk hB; have B4 := Aside0.mk b4; clear b2 b3 b4 hB hS; clear hb3))
 refine bodyPost_ret (results_ct rfl _ _ (w.heap.size + 1 + 1) 33 #[.int .i64 0, .slice none 0 0, .bool false] (0, 0) _ rfl (blk_put (blk_put (blk_put B4.out 0 _ rfl) 1 _ rfl) 2 _ rfl) Try.underlying33 rfl (by kernel_rfl)) rfl ?_
 exact ⟨rfl, below_set (below_set (below_set HB.out (by omega)) (by omega)) (by omega)⟩
theorem add_succ (ad : Addr) (n : Nat) : ad.add (n + 1) = ⟨ad.block, ad.off + (n + 1), none⟩ := by
 unfold Addr.add
 rw [if_neg (by omega)]
theorem lvl_rd (ls : List (List S44)) (n : Nat) : lvl ls ((n : Int) + 1) = rd_L3 ls ((n : Int) + 1) := by
 unfold lvl rd_L3
 rw [if_neg (by omega)]
theorem take_drop1 (l : List S44) (j : Nat) (h : j < l.length) : (l.take (j + 1)).drop j = [l[j]] := by
 rw [List.take_add_one, List.getElem?_eq_getElem h, List.drop_append_of_le_length (by rw [List.length_take]; omega), List.drop_eq_nil_of_le (by rw [List.length_take]; omega)]
 rfl
def leastI (l : List S44) : Nat → Nat
 | 0 => 0
 | i + 1 => if (rd_T44 l (i : Int)).f0 < (rd_T44 l (leastI l i : Int)).f0 then i else leastI l i
theorem leastI_lt (l : List S44) : ∀ i, i ≤ l.length → 0 < l.length → leastI l i < l.length
 | 0, _, h => h
 | i + 1, hi, h => by
  unfold leastI
  split
  ·omega
  ·exact leastI_lt l i (by omega) h
def ownR (ls : List (List S44)) (n : Nat) : List S44 := if n = 0 then rd_L3 ls (n : Int) else [rd_T44 (rd_L3 ls (n : Int)) (leastI (rd_L3 ls (n : Int)) (rd_L3 ls (n : Int)).length : Int)]
set_option maxHeartbeats 8000000 in
set_option maxRecDepth 100000 in
theorem rnext_yes (k n : Nat) (A : Option Addr) (c : Nat) (ls : List (List S44)) (o0 o1 o2 o3 o4 o5 o6 : Int) (w : World) (hC : Kd.C (Kd.slice 44 k44) w A ls.length ls) (hc : ls.length ≤ c) (hr : atriumref12_Right.f ls = some true) (hm : atriumref12_Options.f o0 o1 o2 o3 o4 o5 o6 = some true) (hf : atriumref12_full.f k ls o0 o1 o2 o3 o4 o5 o6 = some (n : Int)) (hn : n ≤ 5) (hnl : n < ls.length) (hpos : 0 < (rd_L3 ls (n : Int)).length) (hcap : ∀ i : Int, (rd_L3 ls i).length ≤ 1024)
  (hsp : ∀ l : List S44, 0 < l.length → l.length ≤ 4096 → atriumref12_span.f k l = some (spanA l, spanB l)) (hmt : ∀ (l : List S44) (a b : ByteArray), l.length ≤ 4096 → atriumref12_Meet.f k l a b = some (meetF l a b)) (hown : ownR ls n = chosenF ls n) :
  Calls Try.prog 10 #[.agg #[.slice A ls.length c], .agg #[.int .i64 o0, .int .i64 o1, .int .i64 o2, .int .i64 o3, .int .i64 o4, .int .i64 o5, .int .i64 o6]] w fun e w' => ∃ v, e = .returned (.tuple #[.agg #[.int .i64 n, v, .bool (botF ls n)], .bool true]) ∧ Kd.R k63 63 w' w.heap.size (fun _ => True) v (jobF ls n).f1 ∧ Below w.heap.size w w' := by
 have HM := Aside0.mk hm
 have HR := Aside0.mk hr
 have HC := Aside0.mk hC
 have HF := Aside0.mk hf
 have HCAP := Aside0.mk hcap
 have HPOS := Aside0.mk hpos
 have HSP := Aside0.mk hsp
 have HMT := Aside0.mk hmt
 have hls : ls.length ≤ 9223372036854775807 := hC.2.1
 have hge : ¬ ((n : Int) < 0) := by omega
 have hchp : 0 < (ownR ls n).length := by unfold ownR; split <;> rename_i h0 <;> simp_all
 have hchc : (ownR ls n).length ≤ 1024 := by unfold ownR; split; exact hcap _; simp
 have HOWN := Aside0.mk hown
 obtain ⟨ch, hch⟩ : ∃ x, ownR ls n = x := ⟨_, rfl⟩
 have HCH0 := Aside0.mk hch
 have HCH := Aside0.mk (hown.symm.trans hch)
 rw [hch] at hchp hchc
 clear hm hr hC hf hcap hpos hch hsp hmt hown
 go_enter Try.func10, Try.ntmps10
 go_upto_if 46 with (first
  | (go_at_call 17; refine (atriumref12_Right.calls A c ls true _ (Kd.C_below HC.out (below_alloc (below_alloc (below_alloc (Below.refl _ _) _) _) _)) hc HR.out).mono ?_; rintro e w1 ⟨rfl, hb1⟩; obtain ⟨b2, b3, b4, hB, hS⟩ := w3_facts w A ls.length c o0 o1 o2 o3 o4 o5 o6 hb1; obtain ⟨p1, q1⟩ := blkc b2 0 rfl; have t10 := (blkc b3 0 rfl).1; have t11 := (blkc b3 1 rfl).1; have t12 := (blkc b3 2 rfl).1; have t13 := (blkc b3 3 rfl).1; have t14 := (blkc b3 4 rfl).1; have t15 := (blkc b3 5 rfl).1; have t16 := (blkc b3 6 rfl).1; have HB1 := Aside0.mk hB; have BW1 := Aside0.mk hb1; clear b2 b3 b4 hB hS q1; clear hb1)
  | (go_at_call 18; refine (atriumref12_Options.calls _ _ _ _ _ _ _ true _ HM.out).mono ?_; rintro e w2 ⟨rfl, hb⟩; have hb2 := BW1.out.trans (hb.mono BW1.out.size); clear hb; obtain ⟨b2, b3, b4, hB, hS⟩ := w3_facts w A ls.length c o0 o1 o2 o3 o4 o5 o6 hb2; obtain ⟨p2, q2⟩ := blkc b2 0 rfl; have t20 := (blkc b3 0 rfl).1; have t21 := (blkc b3 1 rfl).1; have t22 := (blkc b3 2 rfl).1; have t23 := (blkc b3 3 rfl).1; have t24 := (blkc b3 4 rfl).1; have t25 := (blkc b3 5 rfl).1; have t26 := (blkc b3 6 rfl).1; have HB2 := Aside0.mk hB; have BW2 := Aside0.mk hb2; clear b2 b3 b4 hB hS q2; clear hb2)
  | (go_at_call 37; refine (atriumref12_full.calls k A c ls o0 o1 o2 o3 o4 o5 o6 (n : Int) _ (Kd.C_below HC.out HB3.out) hc HF.out).mono ?_; rintro e w4 ⟨rfl, hb⟩; have hb4 := BW3.out.trans (hb.mono BW3.out.size); clear hb; obtain ⟨b2, b3, b4, hB, hS⟩ := w3_facts w A ls.length c o0 o1 o2 o3 o4 o5 o6 hb4; obtain ⟨p4, q4⟩ := blkc b2 0 rfl; have t40 := (blkc b3 0 rfl).1; have t41 := (blkc b3 1 rfl).1; have t42 := (blkc b3 2 rfl).1; have t43 := (blkc b3 3 rfl).1; have t44 := (blkc b3 4 rfl).1; have t45 := (blkc b3 5 rfl).1; have t46 := (blkc b3 6 rfl).1; have HB4 := Aside0.mk hB; have BW4 := Aside0.mk hb4; clear b2 b3 b4 hB hS q4; obtain ⟨ad3, A0, c0, ea, x0, hl0, hi0⟩ := at_L3 (Kd.C_below HC.out HB4.out) (n : Int) (Int.natCast_nonneg _) (by omega); subst ea; rw [Int.toNat_natCast] at x0; have HL0 := Aside0.mk hl0; have HI0 := Aside0.mk hi0; clear hl0 hi0 hb4)
  | (go_at_call 37; refine (atriumref12_full.calls k A c ls o0 o1 o2 o3 o4 o5 o6 (n : Int) _ (Kd.C_below HC.out HB2.out) hc HF.out).mono ?_; rintro e w3 ⟨rfl, hb⟩; have hb3 := BW2.out.trans (hb.mono BW2.out.size); clear hb; obtain ⟨b2, b3, b4, hB, hS⟩ := w3_facts w A ls.length c o0 o1 o2 o3 o4 o5 o6 hb3; obtain ⟨p3, q3⟩ := blkc b2 0 rfl; have t30 := (blkc b3 0 rfl).1; have t31 := (blkc b3 1 rfl).1; have t32 := (blkc b3 2 rfl).1; have t33 := (blkc b3 3 rfl).1; have t34 := (blkc b3 4 rfl).1; have t35 := (blkc b3 5 rfl).1; have t36 := (blkc b3 6 rfl).1; have HB3 := Aside0.mk hB; have BW3 := Aside0.mk hb3; clear b2 b3 b4 hB hS q3; clear hb3))
 clear HB1 HB2 HB3 BW1 BW2 BW3 HR HM HF p1 p2 p3 t10 t11 t12 t13 t14 t15 t16 t20 t21 t22 t23 t24 t25 t26 t30 t31 t32 t33 t34 t35 t36 t40 t41 t42 t43 t44 t45 t46
 have hL0 : ownR ls n = if n = 0 then rd_L3 ls (n : Int) else [rd_T44 (rd_L3 ls (n : Int)) (leastI (rd_L3 ls (n : Int)) (rd_L3 ls (n : Int)).length : Int)] := rfl
 rw [HCH0.out] at hL0
 obtain ⟨L, hL⟩ : ∃ L, rd_L3 ls (n : Int) = L := ⟨_, rfl⟩
 have hLp := HPOS.out
 rw [hL] at hL0 x0 HL0 HI0 hLp ⊢
 have hLc : L.length ≤ 1024 := by rw [← hL]; exact HCAP.out _
 have HCHL := Aside0.mk hL0
 have HLL := Aside0.mk hL
 clear hL0 hL HCH0
 go_cut [7] (fun v7 wc => ∃ (A' : Option Addr) (c' : Nat), v7 = .slice A' ch.length c' ∧ ch.length ≤ c' ∧ Aside0 (Kd.C k44 wc A' ch.length ch) ∧ Aside0 (Below w4.heap.size w4 wc))
 case first =>
  by_cases hn0 : n = 0
  ·have e : L = ch := by rw [HCHL.out, if_pos hn0]
   subst e
   have hng : ¬ ((n : Int) > 0) := by omega
   clear hn0
   go_wp2
   go_meet
   case rel => exact ⟨_, _, rfl, HL0.out, HI0, ⟨Below.refl _ _⟩⟩
  ·have e : ch = [rd_T44 L (leastI L L.length : Int)] := by rw [HCHL.out, if_neg hn0]
   have HE := Aside0.mk e
   clear e
   have hng : 0 < n := by omega
   clear hn0 x0
   simp only [decide_eq_true hng]
   clear hng
   go_wp2
   go_loopg [8, 49] L.length (fun kq v8 v49 w' => ∃ (i j : Nat), v8 = .int .i64 j ∧ v49 = .int .i64 i ∧ i ≤ L.length ∧ j < L.length ∧ Aside0 (kq = L.length - i) ∧ Aside0 (j = leastI L i) ∧ Aside0 (Below w4.heap.size w4 w'))
   case atStart => exact ⟨0, 0, rfl, rfl, Nat.zero_le _, hLp, ⟨rfl⟩, ⟨rfl⟩, ⟨Below.refl _ _⟩⟩
   case round =>
    obtain ⟨i, j, rfl, rfl, hi, hj, HK, HJ, HB⟩ := hrel
    by_cases hlt : i < L.length
    ·obtain ⟨k1, rfl⟩ : ∃ k1, gk = k1 + 1 := ⟨gk - 1, by have := HK.out; omega⟩
     have HK1 := Aside0.mk (show k1 = L.length - (i + 1) by have := HK.out; omega)
     obtain ⟨ad, ea, x0, x1, x2, x3, x4⟩ := at_T44 (Kd.C_below HI0.out HB.out) (i : Int) (Int.natCast_nonneg _) (by omega)
     obtain ⟨ad2, ea2, y0, y1, y2, y3, y4⟩ := at_T44 (Kd.C_below HI0.out HB.out) (j : Int) (Int.natCast_nonneg _) (by omega)
     subst ea
     obtain rfl := Option.some.inj ea2
     clear y1 y2 y3 y4 ea2
     rw [Int.toNat_natCast] at x0 x1 x2 x3 x4 y0
     have hst : leastI L (i + 1) = if (rd_T44 L (i : Int)).f0 < (rd_T44 L (j : Int)).f0 then i else j := by rw [HJ.out]; rfl
     have hjn : leastI L (i + 1) < L.length := leastI_lt L (i + 1) hlt hLp
     obtain ⟨x, hx⟩ : ∃ x, rd_T44 L (i : Int) = x := ⟨_, rfl⟩
     obtain ⟨y, hy⟩ : ∃ y, rd_T44 L (j : Int) = y := ⟨_, rfl⟩
     rw [hx] at x0 x1 x2 x3 x4 hst
     rw [hy] at y0 hst
     have y0a := below_cell (below_alloc (Below.refl _ _) (.cells #[.int .i64 x.f0, .int .i64 x.f1, .int .i64 x.f2, .string x.f3, .string x.f4] 44)) y0
     have HST := Aside0.mk hst
     have HJN := Aside0.mk hjn
     clear hx hy hst hjn
     by_cases hc2 : x.f0 < y.f0
     ·have HS2 := Aside0.mk (show i = leastI L (i + 1) by rw [HST.out, if_pos hc2])
      go_wp2
      go_region
      go_wp2
      go_roundg k1
      case measure => omega
      case rel => exact ⟨i + 1, i, rfl, by first | rfl | (congr 1; omega) | (simp; done), by omega, hlt, HK1, HS2, ⟨by first | exact below_alloc HB.out _ | exact below_drew (below_alloc HB.out _)⟩⟩
     ·have HS2 := Aside0.mk (show j = leastI L (i + 1) by rw [HST.out, if_neg hc2])
      go_wp2
      go_region
      go_wp2
      go_roundg k1
      case measure => omega
      case rel => exact ⟨i + 1, j, rfl, by first | rfl | (congr 1; omega) | (simp; done), by omega, hj, HK1, HS2, ⟨by first | exact below_alloc HB.out _ | exact below_drew (below_alloc HB.out _)⟩⟩
    ·obtain rfl : i = L.length := by omega
     have hjc : j + 1 ≤ c0 := by have := HL0.out; omega
     have hjc2 : (j : Int) + 1 ≤ (c0 : Int) := by omega
     go_wp2
     go_meet
     case rel =>
      have hm := Kd.C_mid (Kd.C_below HI0.out HB.out) (show j ≤ j + 1 by omega) (show j + 1 ≤ L.length by omega) HL0.out
      have e1 : (L.take (j + 1)).drop j = ch := by
       rw [HE.out, ← HJ.out, get44 L j hj, take_drop1 L j hj]
      rw [e1, if_neg (by omega)] at hm
      have e2 : ch.length = 1 := by rw [HE.out]; rfl
      exact ⟨A0.map (fun x => x.add (j * 5)), c0 - j, by rw [e2], by rw [e2]; omega, ⟨hm⟩, HB⟩
 case rest =>
  obtain ⟨A1, c1, rfl, hl1, HC1, HB1⟩ := hcut
  have hb5 := BW4.out.trans (HB1.out.mono BW4.out.size)
  obtain ⟨b2, b3, b4, hB, hS⟩ := w3_facts w (some ad3) ls.length c o0 o1 o2 o3 o4 o5 o6 hb5
  obtain ⟨p5, q5⟩ := blkc b2 0 rfl
  have B25 := Aside0.mk b2
  have B45 := Aside0.mk b4
  have HB5 := Aside0.mk hB
  have hS5 := hS
  have hmec : (metF ls n).length ≤ 1024 := Nat.le_trans (meet_len _ _ _) (by rw [lvl_rd]; exact HCAP.out _)
  obtain ⟨me, hme⟩ : ∃ x, metF ls n = x := ⟨_, rfl⟩
  have HME := Aside0.mk hme
  have HME2 := Aside0.mk (show meetF (rd_L3 ls ((n : Int) + 1)) (spanA ch) (spanB ch) = me by rw [← hme, ← HCH.out, ← lvl_rd]; rfl)
  have HL1 := Aside0.mk hl1
  rw [hme] at hmec
  clear b2 b3 b4 hB hS hb5 q5 hme x0 hl1
  go_upto_if 74 with (fail)
  go_cut [11] (fun v11 wd => ∃ (A' : Option Addr) (c' : Nat), v11 = .slice A' me.length c' ∧ me.length ≤ c' ∧ Aside0 (Kd.C k44 wd A' me.length me) ∧ Aside0 (Below wc.heap.size wc wd))
  case first =>
   by_cases hlt1 : n + 1 < ls.length
   ·have hltI : (n : Int) + 1 < (ls.length : Int) := by omega
    go_wp2_with (first
     | (go_at_call 38; refine (atriumref12_span.calls k A1 c1 ch (spanA ch) (spanB ch) _ HC1.out HL1.out (HSP.out ch hchp (Nat.le_trans hchc (by decide)))).mono ?_; rintro e w6 ⟨rfl, hb⟩; have HB6 := Aside0.mk (HB5.out.trans (hb.mono HB5.out.size)); have HW6 := Aside0.mk hb; have p6 := (blkc (blk_below B25.out hb) 0 rfl).1; obtain ⟨ad6, A6, c6, ea6, x6, hl6, hi6⟩ := at_L3 (Kd.C_below HC.out HB6.out) ((n : Int) + 1) (by omega) (by omega); obtain rfl := Option.some.inj ea6; have x6b := x6; rw [show ((n : Int) + 1).toNat = n + 1 from rfl, add_succ] at x6b; have HL6 := Aside0.mk hl6; have HI6 := Aside0.mk hi6; clear hb hl6 hi6 ea6)
     | (go_at_call 26; refine (atriumref12_Meet.calls k A6 c6 (rd_L3 ls ((n : Int) + 1)) (spanA ch) (spanB ch) me _ HI6.out HL6.out ((HMT.out _ _ _ (Nat.le_trans (HCAP.out _) (by decide))).trans (congrArg some HME2.out))).mono ?_; rintro e w7 ⟨v7, rfl, hr, hb⟩; obtain ⟨A7, c7, rfl, hl7, hC7⟩ := Kd.R_reads hr; have HL7 := Aside0.mk hl7; have HC7 := Aside0.mk hC7; have HW7 := Aside0.mk (HW6.out.trans (hb.mono HW6.out.size)); clear hb hr hl7 hC7))
    go_meet
    case rel => exact ⟨_, _, rfl, HL7.out, HC7, HW7⟩
   ·have hltI : ¬ ((n : Int) + 1 < (ls.length : Int)) := by omega
    have hz : me = [] := by
     rw [← HME2.out, show rd_L3 ls ((n : Int) + 1) = [] from by unfold rd_L3; rw [show ((n : Int) + 1).toNat = n + 1 from rfl, List.getD_eq_getElem?_getD, List.getElem?_eq_none (by omega)]; rfl]
     rfl
    have HZ := Aside0.mk hz
    clear hz
    go_wp2
    go_meet
    case rel => exact ⟨none, 0, by rw [HZ.out]; rfl, by rw [HZ.out]; exact Nat.le_refl _, ⟨by rw [HZ.out]; exact C_no⟩, ⟨Below.refl _ _⟩⟩
  case rest =>
   rename World => w3
   obtain ⟨A2, c2, rfl, hl2, HC2, HB2⟩ := hcut
   have HL2 := Aside0.mk hl2
   have hS3 : w.heap.size + 3 ≤ w3.heap.size := Nat.le_trans hS5 HB2.out.size
   clear hl2 p5
   go_wp2
   have BJ7 := Aside0.mk (World.alloc_heap_new w3 (.cells #[.int .i64 n, .slice none 0 0, .bool true] 33))
   have B27 := Aside0.mk (blk_alloc (blk_below B25.out HB2.out) (.cells #[.int .i64 n, .slice none 0 0, .bool true] 33))
   have B47 := Aside0.mk (blk_alloc (blk_below B45.out HB2.out) (.cells #[.int .i64 n, .slice none 0 0, .bool true] 33))
   have HB7 := Aside0.mk (below_alloc (HB5.out.trans (HB2.out.mono HB5.out.size)) (.cells #[.int .i64 n, .slice none 0 0, .bool true] 33))
   have HX7 := Aside0.mk (Kd.C_alloc (Kd.C_below HC1.out HB2.out) (.cells #[.int .i64 n, .slice none 0 0, .bool true] 33))
   have HC7 := Aside0.mk (Kd.C_alloc HC2.out (.cells #[.int .i64 n, .slice none 0 0, .bool true] 33))
   have hS7 : w3.heap.size + 1 ≤ (w3.alloc (.cells #[.int .i64 n, .slice none 0 0, .bool true] 33)).heap.size := by rw [World.size_alloc]; exact Nat.le_refl _
   generalize w3.alloc (.cells #[.int .i64 n, .slice none 0 0, .bool true] 33) = w7 at BJ7 B27 B47 HB7 HX7 HC7 hS7 ⊢
   have hB3 : w3.heap.size < w7.heap.size := by omega
   have hw3 : w.heap.size ≤ w3.heap.size := by omega
   have NX := Aside0.mk (show NxAt w w7 w3.heap.size n (.slice none 0 0) true [] w7 from ⟨BJ7.out, Kd.R_nil _ _ _ _ _, fun _ _ _ => rfl, HB7.out, Nat.le_refl _⟩)
   clear B25 B45 HB5 HC1 HC2 HB1 HB2 HB4 BW4 HCHL HLL HI0 HL0
   go_loopg [93] ch.length (fun kq v93 w' => ∃ (i : Nat) (u : Value), v93 = .int .i64 i ∧ i ≤ ch.length ∧ Aside0 (kq = ch.length - i) ∧ Aside0 (NxAt w w7 w3.heap.size n u true (ats (n : Int) (ch.take i)) w'))
   case atStart => exact ⟨0, _, rfl, Nat.zero_le _, ⟨rfl⟩, NX⟩
   case round =>
    clear NX
    obtain ⟨i, u, rfl, hi, HK, HN⟩ := hrel
    by_cases hlt : i < ch.length
    ·obtain ⟨k1, rfl⟩ : ∃ k1, gk = k1 + 1 := ⟨gk - 1, by have := HK.out; omega⟩
     have HK1 := Aside0.mk (show k1 = ch.length - (i + 1) by have := HK.out; omega)
     obtain ⟨ad, ea, x0, x1, x2, x3, x4⟩ := at_T44 (HN.out.C44 HX7.out BJ7.out (by simp)) (i : Int) (Int.natCast_nonneg _) (by omega)
     subst ea
     rw [Int.toNat_natCast] at x0 x1 x2 x3 x4
     have hat := ats_take (n : Int) ch i hlt
     obtain ⟨x, hx⟩ : ∃ x, rd_T44 ch (i : Int) = x := ⟨_, rfl⟩
     rw [hx] at x0 x1 x2 x3 x4 hat
     obtain ⟨z, hz⟩ : ∃ z, z = (ats (n : Int) (ch.take (i + 1))) := ⟨_, rfl⟩
     have HAT := Aside0.mk (show z = (ats (n : Int) (ch.take i)) ++ [⟨(n : Int), x.f0⟩] by rw [hz, hat]; try rw [List.append_assoc])
     have HZ := Aside0.mk hz
     clear hz
     obtain ⟨c8, z8⟩ := blkc HN.out.1 1 rfl
     have hle : w7.heap.size ≤ wr.heap.size := HN.out.2.2.2.2
     clear hx hat
     have c8a := below_cell (below_alloc (Below.refl _ _) (.cells #[.int .i64 x.f0, .int .i64 x.f1, .int .i64 x.f2, .string x.f3, .string x.f4] 44)) c8
     go_wp2_with ((with_reducible refine gate_builtin (b := .append) (xs := #[.tmp 98, .tmp 103]) rfl ?_); at_builtin; refine Kd.R_append k63 (w0 := wr) w7.heap.size rfl (.tmp 98) (.tmp 103) 31 63 (.agg #[.int .i64 0, .int .i64 0]) 16 rfl Try.underlying31 info63 rfl (by decide) (by decide) u (ats (n : Int) (ch.take i)) (⟨(n : Int), x.f0⟩ : S63) [.int .i64 (n : Int), .int .i64 x.f0] (fun _ => True) (fun _ => False) rfl (by first | (go_simp; done) | (go_simp; rfl)) ?aP (fun _ hk => hk.elim) ?aF ?aO ?aB ?aS ?aL ?_; (case aP => exact k63_mkM _ _ _ _); (case aF => exact (fun _ _ => trivial)); (case aO => exact Kd.R_alloc HN.out.2.1 _); (case aB => exact (below_alloc (Below.refl wr.heap.size wr) _).mono hle); (case aS => rw [World.size_alloc]; omega); (case aL => simp only [List.length_append, ats_len, List.length_take]; omega); intro u1 w8 ho hb hg hat; rw [← HAT.out] at ho; obtain ⟨Ax, cx, rfl⟩ := Kd.R_slice ho; obtain ⟨h1, h2⟩ := HN.out.step (by omega) (by omega) hb ho; obtain ⟨c9, z9⟩ := blkc h1 1 rfl; have HN1 := Aside0.mk h2; clear ho hb hg hat h1 h2)
     go_roundg k1
     case measure => omega
     case rel => exact ⟨i + 1, _, by first | rfl | (congr 1; omega) | (simp; done), hlt, HK1, ⟨by rw [← HZ.out]; exact HN1.out⟩⟩
    ·obtain rfl : i = ch.length := by omega
     rw [List.take_length] at HN
     go_wp2
     have NX := HN
     clear HN
     go_loopg [109] me.length (fun kq v109 w' => ∃ (i : Nat) (u : Value), v109 = .int .i64 i ∧ i ≤ me.length ∧ Aside0 (kq = me.length - i) ∧ Aside0 (NxAt w w7 w3.heap.size n u true (ats (n : Int) ch ++ ats ((n : Int) + 1) (me.take i)) w'))
     case atStart => exact ⟨0, _, rfl, Nat.zero_le _, ⟨rfl⟩, ⟨by simpa [ats] using NX.out⟩⟩
     case round =>
      clear NX HK
      obtain ⟨i, u, rfl, hi, HK, HN⟩ := hrel
      by_cases hlt : i < me.length
      ·obtain ⟨k1, rfl⟩ : ∃ k1, gk = k1 + 1 := ⟨gk - 1, by have := HK.out; omega⟩
       have HK1 := Aside0.mk (show k1 = me.length - (i + 1) by have := HK.out; omega)
       obtain ⟨ad, ea, x0, x1, x2, x3, x4⟩ := at_T44 (HN.out.C44 HC7.out BJ7.out (by simp)) (i : Int) (Int.natCast_nonneg _) (by omega)
       subst ea
       rw [Int.toNat_natCast] at x0 x1 x2 x3 x4
       have hat := ats_take ((n : Int) + 1) me i hlt
       obtain ⟨x, hx⟩ : ∃ x, rd_T44 me (i : Int) = x := ⟨_, rfl⟩
       rw [hx] at x0 x1 x2 x3 x4 hat
       obtain ⟨z, hz⟩ : ∃ z, z = (ats (n : Int) ch ++ ats ((n : Int) + 1) (me.take (i + 1))) := ⟨_, rfl⟩
       have HAT := Aside0.mk (show z = (ats (n : Int) ch ++ ats ((n : Int) + 1) (me.take i)) ++ [⟨((n : Int) + 1), x.f0⟩] by rw [hz, hat]; try rw [List.append_assoc])
       have HZ := Aside0.mk hz
       clear hz
       obtain ⟨c8, z8⟩ := blkc HN.out.1 1 rfl
       have hle : w7.heap.size ≤ wr.heap.size := HN.out.2.2.2.2
       clear hx hat
       have c8a := below_cell (below_alloc (Below.refl _ _) (.cells #[.int .i64 x.f0, .int .i64 x.f1, .int .i64 x.f2, .string x.f3, .string x.f4] 44)) c8
       go_wp2_with ((with_reducible refine gate_builtin (b := .append) (xs := #[.tmp 114, .tmp 120]) rfl ?_); at_builtin; refine Kd.R_append k63 (w0 := wr) w7.heap.size rfl (.tmp 114) (.tmp 120) 31 63 (.agg #[.int .i64 0, .int .i64 0]) 16 rfl Try.underlying31 info63 rfl (by decide) (by decide) u (ats (n : Int) ch ++ ats ((n : Int) + 1) (me.take i)) (⟨((n : Int) + 1), x.f0⟩ : S63) [.int .i64 ((n : Int) + 1), .int .i64 x.f0] (fun _ => True) (fun _ => False) rfl (by first | (go_simp; done) | (go_simp; rfl)) ?aP (fun _ hk => hk.elim) ?aF ?aO ?aB ?aS ?aL ?_; (case aP => exact k63_mkM _ _ _ _); (case aF => exact (fun _ _ => trivial)); (case aO => exact Kd.R_alloc HN.out.2.1 _); (case aB => exact (below_alloc (Below.refl wr.heap.size wr) _).mono hle); (case aS => rw [World.size_alloc]; omega); (case aL => simp only [List.length_append, ats_len, List.length_take]; omega); intro u1 w8 ho hb hg hat; rw [← HAT.out] at ho; obtain ⟨Ax, cx, rfl⟩ := Kd.R_slice ho; obtain ⟨h1, h2⟩ := HN.out.step (by omega) (by omega) hb ho; obtain ⟨c9, z9⟩ := blkc h1 1 rfl; have HN1 := Aside0.mk h2; clear ho hb hg hat h1 h2)
       go_roundg k1
       case measure => omega
       case rel => exact ⟨i + 1, _, by first | rfl | (congr 1; omega) | (simp; done), hlt, HK1, ⟨by rw [← HZ.out]; exact HN1.out⟩⟩
      ·obtain rfl : i = me.length := by omega
       rw [List.take_length] at HN
       clear HK
       obtain ⟨inp, hinp⟩ : ∃ z, z = ats (n : Int) ch ++ ats ((n : Int) + 1) me := ⟨_, rfl⟩
       rw [← hinp] at HN
       have HINP := Aside0.mk hinp
       have hlen : (ch ++ me).length ≤ 2048 := by rw [List.length_append]; omega
       have hlp : 0 < (ch ++ me).length := by rw [List.length_append]; omega
       have HCA := Aside0.mk (HN.out.C44 HX7.out BJ7.out (by simp))
       have HCB := Aside0.mk (HN.out.C44 HC7.out BJ7.out (by simp))
       clear hinp
       obtain ⟨cm, hcm⟩ : ∃ x, ch ++ me = x := ⟨_, rfl⟩
       rw [hcm] at hlen hlp
       have HCM := Aside0.mk (show [ch, me].flatten = cm by rw [← hcm]; simp)
       have HCM2 := Aside0.mk hcm
       clear hcm
       go_wp2_with (first
        | ((with_reducible refine gate_dst (N := 125) rfl ?_); refine Kd.R_lit k44 _ 44 ?hg (N := 125) ?hd (xs := ([] : List (S44))) (inner := []) (ok := fun _ => True) (okp := fun _ => True) ?hr ?hp (fun _ hk => hk) trivial (Below.refl _ _) (Nat.le_refl _) (by simp) ?_; (case hd => rfl); (case hg => rfl); (case hr => first | (go_simp; done) | (go_simp; rfl)); (case hp => exact (Reps.none _ _)); intro v5 w5 ho hb hg_ hnew_; have HO5 := Aside0.mk ho; have HB5 := Aside0.mk hb; clear hg_ hnew_ ho hb)
        | ((with_reducible refine gate_builtin (b := .append) (xs := #[.tmp 125, .tmp 126]) rfl ?_); at_builtin; refine Kd.R_append_rows k44 (w0 := wr) wr.heap.size rfl (.tmp 125) (.tmp 126) 42 44 (.agg #[(.int .i64 0), (.int .i64 0), (.int .i64 0), (.string ⟨#[]⟩), (.string ⟨#[]⟩)]) 56 rfl Try.underlying42 info44 rfl (by decide) (by omega) v5 [] ch _ _ _ (fun _ => True) (fun _ => False) rfl rfl ?aO ?aR (fun _ _ h => h) (fun _ h => h.elim) ?aF ?aB ?aS ?aL ?_; (case aR => exact (Kd.C_below HCA.out HB5.out)); (case aB => exact HB5.out); (case aF => exact (fun _ _ => trivial)); (case aO => exact HO5.out); (case aS => exact HB5.out.size); (case aL => simp only [List.length_nil]; omega); intro v6 w6 ho hb hg hat; rw [List.nil_append] at ho; have HR6 := Aside0.mk ho; have HB6 := Aside0.mk hb; clear ho hb hg hat)
        | ((with_reducible refine gate_builtin (b := .append) (xs := #[.tmp 127, .tmp 128]) rfl ?_); at_builtin; refine Kd.R_append_rows k44 (w0 := wr) wr.heap.size rfl (.tmp 127) (.tmp 128) 42 44 (.agg #[(.int .i64 0), (.int .i64 0), (.int .i64 0), (.string ⟨#[]⟩), (.string ⟨#[]⟩)]) 56 rfl Try.underlying42 info44 rfl (by decide) (by omega) v6 ch me _ _ _ (fun _ => True) (fun _ => False) rfl rfl ?aO ?aR (fun _ _ h => h) (fun _ h => h.elim) ?aF ?aB ?aS ?aL ?_; (case aR => exact (Kd.C_below HCB.out HB6.out)); (case aB => exact HB6.out); (case aF => exact (fun _ _ => trivial)); (case aO => exact HR6.out); (case aS => exact HB6.out.size); (case aL => omega); intro v7 w9 ho hb hg hat; rw [HCM2.out] at ho; obtain ⟨A9, c9, rfl, hl9, hC9⟩ := Kd.R_reads ho; have HC9 := Aside0.mk hC9; have HL9 := Aside0.mk hl9; have HN9 := Aside0.mk (HN.out.below hb); clear ho hb hg hat hl9 hC9)
        | (go_at_call 38; refine (atriumref12_span.calls k A9 c9 cm (spanA cm) (spanB cm) _ HC9.out HL9.out (HSP.out cm hlp (Nat.le_trans hlen (by decide)))).mono ?_; rintro e w10 ⟨rfl, hb⟩; have HN10 := Aside0.mk (HN9.out.below hb); clear hb))
       clear HCA HCB HC9 HN9 HN
       obtain ⟨fa, hfa⟩ : ∃ x, spanA cm = x := ⟨_, rfl⟩
       obtain ⟨fb, hfb⟩ : ∃ x, spanB cm = x := ⟨_, rfl⟩
       rw [hfa, hfb]
       have HFA := Aside0.mk hfa
       have HFB := Aside0.mk hfb
       clear hfa hfb
       go_loopg [21] ls.length (fun kq v21 w' => ∃ (d : Nat) (b : Bool), v21 = .int .i64 d ∧ n + 2 ≤ d ∧ Aside0 (ls.length - d ≤ kq) ∧ Aside0 (b = ((ls.take d).drop (n + 2)).all (emptyB fa fb)) ∧ Aside0 (NxAt w w7 w3.heap.size n u b inp w'))
       case atStart => exact ⟨n + 2, true, by first | rfl | (simp; done), Nat.le_refl _, ⟨by omega⟩, ⟨all_start _ _ _⟩, HN10⟩
       case round =>
        clear HN10
        obtain ⟨d, b, rfl, hd, HK, HBB, HN⟩ := hrel
        have p8 := (blkc ((HN.out.2.2.1 w.heap.size (by omega) (by omega)).trans B27.out) 0 rfl).1
        by_cases hlt : d < ls.length
        ·obtain ⟨k1, rfl⟩ : ∃ k1, gk = k1 + 1 := ⟨gk - 1, by have := HK.out; omega⟩
         have HK1 := Aside0.mk (show ls.length - (d + 1) ≤ k1 by have := HK.out; omega)
         have HST := Aside0.mk (all_step (emptyB fa fb) ls (n + 2) d hd hlt)
         obtain ⟨c82, z82⟩ := blkc HN.out.1 2 rfl
         cases b with
         | false =>
          have HBN := Aside0.mk (show false = ((ls.take (d + 1)).drop (n + 2)).all (emptyB fa fb) by rw [HST.out, ← HBB.out]; rfl)
          go_wp2
          go_roundg k1
          case measure => omega
          case rel => exact ⟨d + 1, false, by first | rfl | (congr 1; omega) | (simp; done), by omega, HK1, HBN, ⟨HN.out.put2 (by omega) false⟩⟩
         | true =>
          obtain ⟨ad, A10, c10, ea, x0, hl1, hi1⟩ := at_L3 (Kd.C_below HC.out HN.out.2.2.2.1) (d : Int) (Int.natCast_nonneg _) (by omega)
          obtain rfl := Option.some.inj ea
          rw [Int.toNat_natCast] at x0
          obtain ⟨r, hr⟩ : ∃ r, rd_L3 ls (d : Int) = r := ⟨_, rfl⟩
          have hrl : r.length ≤ 1024 := by rw [← hr]; exact HCAP.out _
          rw [hr] at x0 hl1 hi1 HST
          have HL10 := Aside0.mk hl1
          have HC10 := Aside0.mk hi1
          have HBN := Aside0.mk (show emptyB fa fb r = ((ls.take (d + 1)).drop (n + 2)).all (emptyB fa fb) by rw [HST.out, ← HBB.out]; rfl)
          clear hl1 hi1 hr
          have hmr : (meetF r fa fb).length ≤ 1024 := Nat.le_trans (meet_len _ _ _) hrl
          obtain ⟨q, hq⟩ : ∃ q, (meetF r fa fb).length = q := ⟨_, rfl⟩
          have HQ := Aside0.mk hq
          rw [hq] at hmr
          clear hq
          go_wp2_with (go_at_call 26; refine (atriumref12_Meet.calls k A10 c10 r fa fb (meetF r fa fb) _ HC10.out HL10.out (HMT.out _ _ _ (Nat.le_trans hrl (by decide)))).mono ?_; rintro e w11 ⟨v11, rfl, hrr, hb⟩; obtain ⟨A11, c11, rfl, hl11, hC11⟩ := Kd.R_reads hrr; rw [HQ.out]; have HN11 := Aside0.mk (HN.out.below hb); obtain ⟨c83, z83⟩ := blkc HN11.out.1 2 rfl; clear hb hrr hl11 hC11)
          go_roundg k1
          case measure => omega
          case rel => exact ⟨d + 1, emptyB fa fb r, by first | rfl | (congr 1; omega) | (simp; done), by omega, HK1, HBN, ⟨by
           have := HN11.out.put2 (by omega) (emptyB fa fb r)
           have e : ((q : Int) == 0) = emptyB fa fb r := by
            unfold emptyB
            rw [HQ.out]
            by_cases h0 : q = 0
            ·subst h0; rfl
            ·rw [beq_eq_false_iff_ne.mpr h0, beq_eq_false_iff_ne.mpr (by omega)]
           rw [← e] at this ⊢
           exact this⟩⟩
        ·have HB47 := (HN.out.2.2.1 (w.heap.size + 1 + 1) (by omega) (by omega)).trans B47.out
         obtain ⟨e0, g0⟩ := blkc HN.out.1 0 rfl
         obtain ⟨e1, g1⟩ := blkc HN.out.1 1 rfl
         obtain ⟨e2, g2⟩ := blkc HN.out.1 2 rfl
         obtain ⟨y0, f0⟩ := blkc HB47 0 rfl
         obtain ⟨y1, f1⟩ := blkc HB47 1 rfl
         obtain ⟨y2, f2⟩ := blkc HB47 2 rfl
         have HB48 := Aside0.mk HB47
         clear HB47
         obtain ⟨Au, cu, rfl⟩ := Kd.R_slice HN.out.2.1
         obtain ⟨il, hil⟩ : ∃ il, inp.length = il := ⟨_, rfl⟩
         rw [hil] at HN e1
         have HIL := Aside0.mk hil
         clear hil
         go_wp2
         refine bodyPost_ret (results_ct rfl _ _ (w.heap.size + 1 + 1) 33 #[.int .i64 n, .slice Au il cu, .bool b] (0, 0) _ rfl (blk_put (blk_put (blk_put HB48.out 0 _ rfl) 1 _ rfl) 2 _ rfl) Try.underlying33 rfl (by kernel_rfl)) rfl ?_
         have eb : botF ls n = b := by
          rw [HBB.out]
          unfold botF
          rw [HCH.out, HME.out, HCM2.out, HFA.out, HFB.out, List.take_of_length_le (by omega)]
          rfl
         have ei : (jobF ls n).f1 = inp := by
          unfold jobF
          rw [HCH.out, HME.out, HINP.out]
         rw [eb, ei]
         refine ⟨_, rfl, ?_, below_set (below_set (below_set HN.out.2.2.2.1 (by omega)) (by omega)) (by omega)⟩
         have h3 := HB48.out
         have hR := Kd.R_lower HN.out.2.1 (show w.heap.size ≤ w7.heap.size by omega)
         have s0 := Kd.R_far (p := ⟨w.heap.size + 1 + 1, 0, none⟩) (Kd.R_types hR h3 (by decide)) (fun _ hk => hk.2) (.int .i64 n)
         have s1 := Kd.R_far (p := ⟨w.heap.size + 1 + 1, 1, none⟩) s0 (fun _ hk => hk.2) (.slice Au il cu)
         have s2 := Kd.R_far (p := ⟨w.heap.size + 1 + 1, 2, none⟩) s1 (fun _ hk => hk.2) (.bool b)
         exact Kd.R_mono s2 (fun _ _ => trivial)
end Go.Proofs.Ytdibolblgchpdaa.P
