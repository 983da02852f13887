/- Contracts: the reference's Step, Next, Run. -/
import Derived.Test.YtompgphlinjglaaS15
import Derived.Test.YtompgphlinjglaaS20
namespace Go.Proofs.Ytompgphlinjglaa.P
open Go.RowKit Go.Proofs.YtompgphlinjglaaW.PrintWords Go.Proofs.YtompgphlinjglaaW.PrintLast Go.Proofs.YtompgphlinjglaaW.PrintMore
attribute [local go_sem] Oper.semAt_some
set_option linter.unusedVariables false
set_option linter.unusedSimpArgs false

section
variable {k : Nat} {w : World} {g : Nat → Tag} {p : Nat} {S : LS}
theorem RefIs.at_ (h : RefIs k w g p S) {n : Nat} : RefIs k (w.drewN n) g p S := h.move ((Only.refl (fun _ => False) g w).drewN n) (Ext.refl _ _) (fun h => h) (fun _ _ h => h)
theorem RPost.of_below (h : RefIs k w g p S) {w' : World} (hb : Below w.heap.size w w') : RPost k w g p S w' :=
  ⟨g, Ext.refl _ _, Only.of_below hb _ _, h.move (Only.of_below hb (fun _ => False) g) (Ext.refl _ _) (fun h => h) (fun _ _ h => h)⟩
theorem RPost.after {T : LS} {w1 w2 : World} {g1 : Nat → Tag} (he : Ext w.heap.size g g1) (ho : Only (TR k) g w w1) (h : RPost k w1 g1 p T w2) : RPost k w g p T w2 := by
  obtain ⟨g2, he2, ho2, hl2⟩ := h
  exact ⟨g2, he.trans he2 ho.size, ho.trans ho2 he, hl2⟩
theorem RPost.drewN {T : LS} {w' : World} {n : Nat} (h : RPost k (w.drewN n) g p T w') : RPost k w g p T w' := by
  obtain ⟨g1, he, ho, hl⟩ := h
  exact ⟨g1, he, ⟨ho.os, ho.tape, ho.output, ho.size, ho.block⟩, hl⟩
theorem rstep_calls (h : RefIs k w g p S) {B : Nat} (hG : Good B S) (hB : B ≤ 1152921504606846976) (pick : Int) :
    Calls Try.prog 39 #[.pointer (some ⟨p, 0, none⟩), .int .i64 pick] w fun e w' => e = .returned (.tuple #[.int .i64 (whoF S pick), .bool (stepsF S pick)]) ∧ RPost k w g p (stepF S pick) w' := by
  cases hs : stepsF S pick with
  | true =>
    obtain ⟨A0, c0, A1, c1, A2, c2, At, ct, bs, h⟩ := h
    refine (rstepYes_calls h hG hB pick hs).mono ?_
    rintro ev w' ⟨rfl, hp⟩
    exact ⟨by unfold whoF; rw [if_pos hs], hp⟩
  | false =>
    refine (rstepNot_calls h hG.tasks pick hs).mono ?_
    rintro ev w' ⟨rfl, hb⟩
    refine ⟨by unfold whoF; rw [if_neg (by rw [hs]; decide)], ?_⟩
    have : stepF S pick = S := by unfold stepF; rw [if_neg (by rw [hs]; decide)]
    rw [this]
    exact RPost.of_below h hb
theorem RefIs.usedAt (h : RefIs k w g p S) (x : Nat) : RefIs k (w.setCell ⟨p, 6, none⟩ (.int .i64 x)) g p { S with used := x } ∧ Only (TR k) g w (w.setCell ⟨p, 6, none⟩ (.int .i64 x)) := by
  obtain ⟨A0, c0, A1, c1, A2, c2, At, ct, bs, h⟩ := h
  obtain ⟨l, o⟩ := h.put 6 (.int .i64 x) { S with used := x } rfl rfl rfl rfl rfl
  exact ⟨⟨_, _, _, _, _, _, _, _, _, l⟩, o.mono (fun t ht => by subst ht; rfl)⟩
set_option maxHeartbeats 4000000 in
set_option maxRecDepth 100000 in
theorem rnext_calls (h : RefIs k w g p S) {B : Nat} (hG : Good B S) (hB : B ≤ 1152921504606846976) :
    Calls Try.prog 40 #[.pointer (some ⟨p, 0, none⟩)] w fun e w' => e = .returned (.tuple #[.int .i64 (whoF S (pickF S)), .bool (stepsF S (pickF S))]) ∧ RPost k w g p (nextF S) w' := by
  have HST := Aside0.mk (fun (n : Nat) => (rstep_calls (h.move ((Only.refl (fun _ => False) g w).drewN n) (Ext.refl _ _) (fun h => h) (fun _ _ h => h)) hG hB (pickF S)).mono (fun _ _ hh => And.intro hh.1 (RPost.drewN hh.2)))
  obtain ⟨A0, c0, A1, c1, A2, c2, At, ct, bs, h⟩ := h
  have HH := Aside0.mk h
  have hm := (blkc h.blk 0 rfl).1
  have hm7 := (blkc h.blk 6 rfl).1
  obtain ⟨f1, f2, f3, f4, f5⟩ := fixed_step S (pickF S)
  have F1 := Aside0.mk f1
  have F5 := Aside0.mk f5
  have hul : S.used ≤ 65536 := Nat.le_trans hG.used hG.picks
  have hpl : S.picks.length ≤ 65536 := hG.picks
  clear h f1 f2 f3 f4 f5
  by_cases hlt : S.used < S.picks.length
  · have dt : decide (S.used < S.picks.length) = true := decide_eq_true hlt
    obtain ⟨ad, ea, hx⟩ := Kd.at_int HH.out.picks.now (S.used : Int) (Int.natCast_nonneg _) (by omega)
    subst ea
    rw [Int.toNat_natCast] at hx
    have hx' : w.cell? (ad.add S.used) = some (.int .i64 (pickF S)) := by rw [hx]; simp [rd, pickF]
    have hi0 : (S.used : Int) < (S.picks.length : Int) := by omega
    have HLT := Aside0.mk hlt
    clear hx hlt
    have HX' := Aside0.mk hx'
    clear hx'
    cases hs : stepsF S (pickF S) with
    | true =>
      have HN := Aside0.mk (show nextF S = { stepF S (pickF S) with used := S.used + 1 } by unfold nextF; rw [if_pos ⟨hs, HLT.out⟩])
      obtain ⟨pk, hpk⟩ : ∃ pk, pickF S = pk := ⟨_, rfl⟩
      rw [hpk] at HST hs HN F1 F5 HX' ⊢
      rw [hs] at HST; try rw [hs]
      clear hs hpk
      go_enter Try.func40, Try.ntmps40
      go_upto_region 2 with (fail)
      have hx' := HX'.out
      go_quiet (fail)
      go_upto_region 3 with (fail)
      go_quiet (fail)
      clear hm hm7 hx'
      go_upto_region 5 with (go_at_call 39; refine (HST.out _).mono ?_; rintro ev w1 ⟨rfl, hp⟩; have HP := Aside0.mk hp; clear hp)
      obtain ⟨g1, he1, ho1, hl1⟩ := HP.out
      obtain ⟨A0', c0', A1', c1', A2', c2', At', ct', bs', h1⟩ := hl1
      obtain ⟨y0, _⟩ := blkc h1.blk 0 rfl
      obtain ⟨y7, y7f⟩ := blkc h1.blk 6 rfl
      rw [F1.out] at y0
      rw [F5.out] at y7
      have HL1 := Aside0.mk (show RefIs k w1 g1 p (stepF S pk) from ⟨_, _, _, _, _, _, _, _, _, h1⟩)
      have HE1 := Aside0.mk he1
      have HO1 := Aside0.mk ho1
      clear h1 he1 ho1
      go_quiet (fail)
      go_wp2
      go_ret2
      refine ⟨rfl, RPost.after HE1.out HO1.out ?_⟩
      rw [HN.out]
      have hl2 := HL1.out.move ((Only.refl (fun _ => False) g1 w1).drewN nq) (Ext.refl _ _) (fun h => h) (fun _ _ h => h)
      obtain ⟨hl3, ho3⟩ := hl2.usedAt (S.used + 1)
      exact ⟨g1, Ext.refl _ _, ((Only.refl (TR k) g1 w1).drewN nq).trans ho3 (Ext.refl _ _), hl3⟩
    | false =>
      have HN := Aside0.mk (show nextF S = stepF S (pickF S) by unfold nextF; rw [if_neg (fun hh => by have := hh.1; rw [hs] at this; cases this)])
      obtain ⟨pk, hpk⟩ : ∃ pk, pickF S = pk := ⟨_, rfl⟩
      rw [hpk] at HST hs HN HX' ⊢
      rw [hs] at HST; try rw [hs]
      clear hs hpk
      go_enter Try.func40, Try.ntmps40
      go_upto_region 2 with (fail)
      have hx' := HX'.out
      go_quiet (fail)
      go_upto_region 3 with (fail)
      go_quiet (fail)
      clear hm hm7 hx'
      go_upto_region 5 with (go_at_call 39; refine (HST.out _).mono ?_; rintro ev w1 ⟨rfl, hp⟩; have HP := Aside0.mk hp; clear hp)
      go_quiet (fail)
      go_wp2
      go_ret2
      refine ⟨rfl, ?_⟩
      rw [HN.out]
      obtain ⟨g1, he1, ho1, hl1⟩ := HP.out
      exact ⟨g1, he1, ho1.drewN nq, hl1.move ((Only.refl (fun _ => False) g1 w1).drewN nq) (Ext.refl _ _) (fun h => h) (fun _ _ h => h)⟩
  · have dt : decide (S.used < S.picks.length) = false := decide_eq_false hlt
    have HP0 := Aside0.mk (show pickF S = 0 by unfold pickF; simp [List.getD_eq_getElem?_getD, List.getElem?_eq_none (Nat.le_of_not_lt hlt)])
    rw [HP0.out] at HST
    have HLT := Aside0.mk hlt
    cases hs : stepsF S 0 with
    | true =>
      have HN := Aside0.mk (show nextF S = stepF S (pickF S) by unfold nextF; rw [if_neg (fun hh => HLT.out hh.2)])
      rw [HP0.out] at HN
      rw [HP0.out]
      rw [hs] at HST; try rw [hs]
      rw [HP0.out] at F1 F5
      clear hs
      go_enter Try.func40, Try.ntmps40
      go_upto_region 2 with (fail)
      go_quiet (fail)
      clear hm hm7
      go_upto_region 5 with (go_at_call 39; refine (HST.out _).mono ?_; rintro ev w1 ⟨rfl, hp⟩; have HP := Aside0.mk hp; clear hp)
      obtain ⟨g1, he1, ho1, hl1⟩ := HP.out
      obtain ⟨A0', c0', A1', c1', A2', c2', At', ct', bs', h1⟩ := hl1
      obtain ⟨y0, _⟩ := blkc h1.blk 0 rfl
      obtain ⟨y7, y7f⟩ := blkc h1.blk 6 rfl
      rw [F1.out] at y0
      rw [F5.out] at y7
      have HL1 := Aside0.mk (show RefIs k w1 g1 p (stepF S 0) from ⟨_, _, _, _, _, _, _, _, _, h1⟩)
      have HE1 := Aside0.mk he1
      have HO1 := Aside0.mk ho1
      clear h1 he1 ho1
      go_quiet (fail)
      go_wp2
      go_ret2
      refine ⟨rfl, RPost.after HE1.out HO1.out ?_⟩
      rw [HN.out]
      exact ⟨g1, Ext.refl _ _, (Only.refl (TR k) g1 w1).drewN nq, HL1.out.move ((Only.refl (fun _ => False) g1 w1).drewN nq) (Ext.refl _ _) (fun h => h) (fun _ _ h => h)⟩
    | false =>
      have HN := Aside0.mk (show nextF S = stepF S (pickF S) by unfold nextF; rw [if_neg (fun hh => HLT.out hh.2)])
      rw [HP0.out] at HN
      rw [HP0.out]
      rw [hs] at HST; try rw [hs]
      clear hs
      go_enter Try.func40, Try.ntmps40
      go_upto_region 2 with (fail)
      go_quiet (fail)
      clear hm hm7
      go_upto_region 5 with (go_at_call 39; refine (HST.out _).mono ?_; rintro ev w1 ⟨rfl, hp⟩; have HP := Aside0.mk hp; clear hp)
      go_quiet (fail)
      go_wp2
      go_ret2
      refine ⟨rfl, ?_⟩
      rw [HN.out]
      obtain ⟨g1, he1, ho1, hl1⟩ := HP.out
      exact ⟨g1, he1, ho1.drewN nq, hl1.move ((Only.refl (fun _ => False) g1 w1).drewN nq) (Ext.refl _ _) (fun h => h) (fun _ _ h => h)⟩
set_option maxHeartbeats 4000000 in
set_option maxRecDepth 100000 in
theorem rrun_calls (h : RefIs k w g p S) {B : Nat} (hG : Good B S) (most : Int) (hB : B + most.toNat ≤ 1152921504606846976) :
    Calls Try.prog 41 #[.pointer (some ⟨p, 0, none⟩), .int .i64 most] w fun e w' => e = .returned (.int .i64 (ranF most.toNat S)) ∧ RPost k w g p (runF most.toNat S) w' := by
  have H0 := Aside0.mk (RPost.of_below h (Below.refl _ _))
  have HG := Aside0.mk hG
  have HB := Aside0.mk hB
  have hmm : most.toNat ≤ 1152921504606846976 := by omega
  clear h hG hB
  go_enter Try.func41, Try.ntmps41
  go_wp2
  go_loopg [5, 6, 7] most.toNat (fun kq v5 v6 v7 w' => ∃ (i : Nat) (T : LS), v5 = .int .i64 i ∧ i ≤ most.toNat ∧ Aside0 (kq = most.toNat - i) ∧ Aside0 (RPost k w g p T w') ∧ Aside0 (Good (B + i) T) ∧ Aside0 (runF most.toNat S = runF (most.toNat - i) T ∧ ranF most.toNat S = i + ranF (most.toNat - i) T))
  case atStart => exact ⟨0, S, rfl, Nat.zero_le _, ⟨rfl⟩, H0, HG, ⟨rfl, by simp⟩⟩
  case round =>
    obtain ⟨i, T, rfl, hi, HK, HL, HGT, HR⟩ := hrel
    by_cases hlt : i < most.toNat
    · obtain ⟨k1, rfl⟩ : ∃ k1, gk = k1 + 1 := ⟨gk - 1, by have := HK.out; omega⟩
      have HK1 := Aside0.mk (show k1 = most.toNat - (i + 1) by have := HK.out; omega)
      have hli : (i : Int) < most := by omega
      have dl : decide ((i : Int) < most) = true := decide_eq_true hli
      obtain ⟨m, hm⟩ : ∃ m, most.toNat - i = m + 1 := ⟨most.toNat - i - 1, by omega⟩
      have HR1 := HR.out
      rw [hm] at HR1
      have hm1 : most.toNat - (i + 1) = m := by omega
      have HNX := Aside0.mk (fun g1 (hl : RefIs k wr g1 p T) => rnext_calls hl HGT.out (by have := HB.out; omega))
      have HG2 := Aside0.mk (good_next HGT.out)
      cases hs : stepsF T (pickF T) with
      | true =>
        obtain ⟨r1, r2⟩ := runF_yes (n := m) hs
        have HR2 := Aside0.mk (show runF most.toNat S = runF (most.toNat - (i + 1)) (nextF T) ∧ ranF most.toNat S = (i + 1) + ranF (most.toNat - (i + 1)) (nextF T) by rw [hm1, HR1.1, HR1.2, r1, r2]; exact ⟨rfl, by omega⟩)
        obtain ⟨g1, he1, ho1, hl1⟩ := HL.out
        have HN1 := Aside0.mk (HNX.out g1 hl1)
        rw [hs] at HN1
        have HE1 := Aside0.mk he1
        have HO1 := Aside0.mk ho1
        clear hs r1 r2 he1 ho1 hl1 hm HR1 hm1
        go_wp2_with (go_at_call 40; refine HN1.out.mono ?_; rintro ev w1 ⟨rfl, hp⟩; have HP := Aside0.mk hp; clear hp)
        go_roundg k1
        case measure => omega
        case rel => exact ⟨i + 1, nextF T, by first | rfl | (congr 1; omega) | (simp; done), hlt, HK1, ⟨RPost.after HE1.out HO1.out HP.out⟩, ⟨by have := HG2.out; rw [Nat.add_assoc] at this; exact this⟩, HR2⟩
      | false =>
        obtain ⟨r1, r2⟩ := runF_no (n := m) hs
        have HR2 := Aside0.mk (show runF most.toNat S = nextF T ∧ ranF most.toNat S = i by rw [HR1.1, HR1.2, r1, r2]; exact ⟨rfl, rfl⟩)
        obtain ⟨g1, he1, ho1, hl1⟩ := HL.out
        have HN1 := Aside0.mk (HNX.out g1 hl1)
        rw [hs] at HN1
        have HE1 := Aside0.mk he1
        have HO1 := Aside0.mk ho1
        clear hs r1 r2 he1 ho1 hl1 hm HR1 hm1
        go_wp2_with (go_at_call 40; refine HN1.out.mono ?_; rintro ev w1 ⟨rfl, hp⟩; have HP := Aside0.mk hp; clear hp)
        go_ret
        exact ⟨by rw [HR2.out.2]; rfl, by rw [HR2.out.1]; exact RPost.after HE1.out HO1.out HP.out⟩
    · obtain rfl : i = most.toNat := by omega
      have HR2 := Aside0.mk (show runF most.toNat S = T ∧ ranF most.toNat S = most.toNat by have := HR.out; rw [Nat.sub_self] at this; exact ⟨this.1, this.2⟩)
      have dl : decide (((most.toNat : Nat) : Int) < most) = false := decide_eq_false (by omega)
      go_wp2
      go_ret
      exact ⟨by rw [HR2.out.2]; rfl, by rw [HR2.out.1]; exact HL.out⟩
end
end Go.Proofs.Ytompgphlinjglaa.P
