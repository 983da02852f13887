/- Contracts: the program's Step, Next, Run. -/
import Derived.Test.YtompgphlinjglaaS13
import Derived.Test.YtompgphlinjglaaS14
namespace Go.Proofs.Ytompgphlinjglaa.P
open Go.RowKit Go.Proofs.YtompgphlinjglaaW.PrintWords Go.Proofs.YtompgphlinjglaaW.PrintLast Go.Proofs.YtompgphlinjglaaW.PrintMore
attribute [local go_sem] Oper.semAt_some
set_option linter.unusedVariables false
set_option linter.unusedSimpArgs false

section
variable {k : Nat} {w : World} {g : Nat → Tag} {p : Nat} {S : LS} {bs : List Nat}
/-- What a call of the loop's leaves. -/
def LPost (k : Nat) (w : World) (g : Nat → Tag) (p : Nat) (T : LS) (w' : World) (bs : List Nat) : Prop := ∃ g', Ext w.heap.size g g' ∧ Only (TP k) g w w' ∧ LoopIs k w' g' p T bs
theorem LPost.of_below (h : LoopIs k w g p S bs) {w' : World} (hb : Below w.heap.size w w') : LPost k w g p S w' bs :=
  ⟨g, Ext.refl _ _, Only.of_below hb _ _, h.move (Only.of_below hb (fun _ => False) g) (Ext.refl _ _) (fun h => h) (fun _ _ h => h)⟩
theorem LPost.after {T : LS} {w1 w2 : World} {g1 : Nat → Tag} (he : Ext w.heap.size g g1) (ho : Only (TP k) g w w1) (h : LPost k w1 g1 p T w2 bs) : LPost k w g p T w2 bs := by
  obtain ⟨g2, he2, ho2, hl2⟩ := h
  exact ⟨g2, he.trans he2 ho.size, ho.trans ho2 he, hl2⟩
theorem LPost.drewN {T : LS} {w' : World} {n : Nat} (h : LPost k (w.drewN n) g p T w' bs) : LPost k w g p T w' bs := by
  obtain ⟨g1, he, ho, hl⟩ := h
  exact ⟨g1, he, ⟨ho.os, ho.tape, ho.output, ho.size, ho.block⟩, hl⟩
theorem step_calls (h : LoopIs k w g p S bs) {B : Nat} (hG : Good B S) (hB : B ≤ 1152921504606846976) (pick : Int) :
    Calls Try.prog 11 #[.pointer (some ⟨p, 0, none⟩), .int .i64 pick] w fun e w' => e = .returned (.tuple #[.int .i64 (whoF S pick), .bool (stepsF S pick)]) ∧ LPost k w g p (stepF S pick) w' bs := by
  cases hs : stepsF S pick with
  | true =>
    obtain ⟨A0, c0, A1, c1, A2, c2, At, ct, Aw, cw, e, h⟩ := h
    refine (stepYes_calls h hG hB pick hs).mono ?_
    rintro ev w' ⟨rfl, hp⟩
    exact ⟨by unfold whoF; rw [if_pos hs], hp⟩
  | false =>
    refine (stepNot_calls h hG.tasks pick hs).mono ?_
    rintro ev w' ⟨rfl, hb⟩
    refine ⟨by unfold whoF; rw [if_neg (by rw [hs]; decide)], ?_⟩
    have : stepF S pick = S := by unfold stepF; rw [if_neg (by rw [hs]; decide)]
    rw [this]
    exact LPost.of_below h hb
theorem LoopIs.usedAt (h : LoopIs k w g p S bs) (x : Nat) : LoopIs k (w.setCell ⟨p, 7, none⟩ (.int .i64 x)) g p { S with used := x } bs ∧ Only (TP k) g w (w.setCell ⟨p, 7, none⟩ (.int .i64 x)) := by
  obtain ⟨A0, c0, A1, c1, A2, c2, At, ct, Aw, cw, e, h⟩ := h
  have ho := (Only.refl (fun t => t = Tag.loop k) g w).setCell (p := ⟨p, 7, none⟩) (.inl h.tag) (.int .i64 x)
  have hx := Ext.refl w.heap.size g
  exact ⟨⟨A0, c0, A1, c1, A2, c2, At, ct, Aw, cw, e, ⟨blk_put h.blk 7 _ rfl, ho.blk h.env (by rw [h.etag]; simp), h.l0, h.l1, h.l2, h.picks.move ho hx (by simp), h.ticks.move ho hx (by simp), h.draws.move ho hx (by simp), h.tasks.move rfl ho hx (by simp), h.waits.move rfl ho hx (by simp), fun i hi => (h.each i hi).move ho hx (by simp) (by simp) (by simp), h.tag, h.etag⟩⟩, ho.mono (fun t ht => by subst ht; rfl)⟩
set_option maxHeartbeats 4000000 in
set_option maxRecDepth 100000 in
theorem next_calls (h : LoopIs k w g p S bs) {B : Nat} (hG : Good B S) (hB : B ≤ 1152921504606846976) :
    Calls Try.prog 22 #[.pointer (some ⟨p, 0, none⟩)] w fun e w' => e = .returned (.tuple #[.int .i64 (whoF S (pickF S)), .bool (stepsF S (pickF S))]) ∧ LPost k w g p (nextF S) w' bs := by
  have HM := Aside0.mk (made_calls h)
  have HST := Aside0.mk (fun (n : Nat) => (step_calls (h.move ((Only.refl (fun _ => False) g w).drewN n) (Ext.refl _ _) (fun h => h) (fun _ _ h => h)) hG hB (pickF S)).mono (fun _ _ hh => And.intro hh.1 (LPost.drewN hh.2)))
  obtain ⟨A0, c0, A1, c1, A2, c2, At, ct, Aw, cw, e, h⟩ := h
  have HH := Aside0.mk h
  have hm := (blkc h.blk 0 rfl).1
  have hm7 := (blkc h.blk 7 rfl).1
  obtain ⟨f1, f2, f3, f4, f5⟩ := fixed_step S (pickF S)
  have F1 := Aside0.mk f1
  have F5 := Aside0.mk f5
  have hul : S.used ≤ 65536 := Nat.le_trans hG.used hG.picks
  have hpl : S.picks.length ≤ 65536 := hG.picks
  clear h f1 f2 f3 f4 f5
  by_cases hlt : S.used < S.picks.length
  · have dt : decide (S.used < S.picks.length) = true := decide_eq_true hlt
    obtain ⟨ad, ea, hx⟩ := Kd.at_int HH.out.picks.now (S.used : Int) (Int.natCast_nonneg _) (by omega)
    subst ea
    rw [Int.toNat_natCast] at hx
    have hx' : w.cell? (ad.add S.used) = some (.int .i64 (pickF S)) := by rw [hx]; simp [rd, pickF]
    have hi0 : (S.used : Int) < (S.picks.length : Int) := by omega
    have HLT := Aside0.mk hlt
    clear hx hlt
    have HX' := Aside0.mk hx'
    clear hx'
    cases hs : stepsF S (pickF S) with
    | true =>
      have HN := Aside0.mk (show nextF S = { stepF S (pickF S) with used := S.used + 1 } by unfold nextF; rw [if_pos ⟨hs, HLT.out⟩])
      obtain ⟨pk, hpk⟩ : ∃ pk, pickF S = pk := ⟨_, rfl⟩
      rw [hpk] at HST hs HN F1 F5 HX' ⊢
      rw [hs] at HST; try rw [hs]
      clear hs hpk
      go_enter Try.func22, Try.ntmps22
      go_upto_region 4 with (go_at_call 35; refine HM.out.mono ?_; rintro e w' ⟨rfl, rfl⟩)
      have hx' := HX'.out
      go_quiet (fail)
      go_upto_region 5 with (fail)
      go_quiet (fail)
      clear hm hm7 hx'
      go_upto_region 7 with (go_at_call 11; refine (HST.out _).mono ?_; rintro ev w1 ⟨rfl, hp⟩; have HP := Aside0.mk hp; clear hp)
      obtain ⟨g1, he1, ho1, hl1⟩ := HP.out
      obtain ⟨A0', c0', A1', c1', A2', c2', At', ct', Aw', cw', e', h1⟩ := hl1
      obtain ⟨y0, _⟩ := blkc h1.blk 0 rfl
      obtain ⟨y7, y7f⟩ := blkc h1.blk 7 rfl
      rw [F1.out] at y0
      rw [F5.out] at y7
      have HL1 := Aside0.mk (show LoopIs k w1 g1 p (stepF S pk) bs from ⟨_, _, _, _, _, _, _, _, _, _, _, h1⟩)
      have HE1 := Aside0.mk he1
      have HO1 := Aside0.mk ho1
      clear h1 he1 ho1
      go_quiet (fail)
      go_wp2
      go_ret2
      refine ⟨rfl, LPost.after HE1.out HO1.out ?_⟩
      rw [HN.out]
      have hl2 := HL1.out.move ((Only.refl (fun _ => False) g1 w1).drewN nq) (Ext.refl _ _) (fun h => h) (fun _ _ h => h)
      obtain ⟨hl3, ho3⟩ := hl2.usedAt (S.used + 1)
      exact ⟨g1, Ext.refl _ _, ((Only.refl (TP k) g1 w1).drewN nq).trans ho3 (Ext.refl _ _), hl3⟩
    | false =>
      have HN := Aside0.mk (show nextF S = stepF S (pickF S) by unfold nextF; rw [if_neg (fun hh => by have := hh.1; rw [hs] at this; cases this)])
      obtain ⟨pk, hpk⟩ : ∃ pk, pickF S = pk := ⟨_, rfl⟩
      rw [hpk] at HST hs HN HX' ⊢
      rw [hs] at HST; try rw [hs]
      clear hs hpk
      go_enter Try.func22, Try.ntmps22
      go_upto_region 4 with (go_at_call 35; refine HM.out.mono ?_; rintro e w' ⟨rfl, rfl⟩)
      have hx' := HX'.out
      go_quiet (fail)
      go_upto_region 5 with (fail)
      go_quiet (fail)
      clear hm hm7 hx'
      go_upto_region 7 with (go_at_call 11; refine (HST.out _).mono ?_; rintro ev w1 ⟨rfl, hp⟩; have HP := Aside0.mk hp; clear hp)
      go_quiet (fail)
      go_wp2
      go_ret2
      refine ⟨rfl, ?_⟩
      rw [HN.out]
      obtain ⟨g1, he1, ho1, hl1⟩ := HP.out
      exact ⟨g1, he1, ho1.drewN nq, hl1.move ((Only.refl (fun _ => False) g1 w1).drewN nq) (Ext.refl _ _) (fun h => h) (fun _ _ h => h)⟩
  · have dt : decide (S.used < S.picks.length) = false := decide_eq_false hlt
    have HP0 := Aside0.mk (show pickF S = 0 by unfold pickF; simp [List.getD_eq_getElem?_getD, List.getElem?_eq_none (Nat.le_of_not_lt hlt)])
    rw [HP0.out] at HST
    have HLT := Aside0.mk hlt
    cases hs : stepsF S 0 with
    | true =>
      have HN := Aside0.mk (show nextF S = stepF S (pickF S) by unfold nextF; rw [if_neg (fun hh => HLT.out hh.2)])
      rw [HP0.out] at HN
      rw [HP0.out]
      rw [hs] at HST; try rw [hs]
      rw [HP0.out] at F1 F5
      clear hs
      go_enter Try.func22, Try.ntmps22
      go_upto_region 4 with (go_at_call 35; refine HM.out.mono ?_; rintro e w' ⟨rfl, rfl⟩)
      go_quiet (fail)
      clear hm hm7
      go_upto_region 7 with (go_at_call 11; refine (HST.out _).mono ?_; rintro ev w1 ⟨rfl, hp⟩; have HP := Aside0.mk hp; clear hp)
      obtain ⟨g1, he1, ho1, hl1⟩ := HP.out
      obtain ⟨A0', c0', A1', c1', A2', c2', At', ct', Aw', cw', e', h1⟩ := hl1
      obtain ⟨y0, _⟩ := blkc h1.blk 0 rfl
      obtain ⟨y7, y7f⟩ := blkc h1.blk 7 rfl
      rw [F1.out] at y0
      rw [F5.out] at y7
      have HL1 := Aside0.mk (show LoopIs k w1 g1 p (stepF S 0) bs from ⟨_, _, _, _, _, _, _, _, _, _, _, h1⟩)
      have HE1 := Aside0.mk he1
      have HO1 := Aside0.mk ho1
      clear h1 he1 ho1
      go_quiet (fail)
      go_wp2
      go_ret2
      refine ⟨rfl, LPost.after HE1.out HO1.out ?_⟩
      rw [HN.out]
      exact ⟨g1, Ext.refl _ _, (Only.refl (TP k) g1 w1).drewN nq, HL1.out.move ((Only.refl (fun _ => False) g1 w1).drewN nq) (Ext.refl _ _) (fun h => h) (fun _ _ h => h)⟩
    | false =>
      have HN := Aside0.mk (show nextF S = stepF S (pickF S) by unfold nextF; rw [if_neg (fun hh => HLT.out hh.2)])
      rw [HP0.out] at HN
      rw [HP0.out]
      rw [hs] at HST; try rw [hs]
      clear hs
      go_enter Try.func22, Try.ntmps22
      go_upto_region 4 with (go_at_call 35; refine HM.out.mono ?_; rintro e w' ⟨rfl, rfl⟩)
      go_quiet (fail)
      clear hm hm7
      go_upto_region 7 with (go_at_call 11; refine (HST.out _).mono ?_; rintro ev w1 ⟨rfl, hp⟩; have HP := Aside0.mk hp; clear hp)
      go_quiet (fail)
      go_wp2
      go_ret2
      refine ⟨rfl, ?_⟩
      rw [HN.out]
      obtain ⟨g1, he1, ho1, hl1⟩ := HP.out
      exact ⟨g1, he1, ho1.drewN nq, hl1.move ((Only.refl (fun _ => False) g1 w1).drewN nq) (Ext.refl _ _) (fun h => h) (fun _ _ h => h)⟩
theorem runF_yes {n : Nat} {S : LS} (h : stepsF S (pickF S) = true) : runF (n + 1) S = runF n (nextF S) ∧ ranF (n + 1) S = ranF n (nextF S) + 1 := by
  constructor
  · show (if _ then _ else _) = _; rw [if_pos h]
  · show (if _ then _ else _) = _; rw [if_pos h]
theorem runF_no {n : Nat} {S : LS} (h : stepsF S (pickF S) = false) : runF (n + 1) S = nextF S ∧ ranF (n + 1) S = 0 := by
  constructor
  · show (if _ then _ else _) = _; rw [if_neg (by rw [h]; decide)]
  · show (if _ then _ else _) = _; rw [if_neg (by rw [h]; decide)]
theorem LPost.then_ {S1 : LS} {w1 w2 : World} (h : LPost k w g p S1 w1 bs) (hk : ∀ g1, LoopIs k w1 g1 p S1 bs → LPost k w1 g1 p S w2 bs) : LPost k w g p S w2 bs := by
  obtain ⟨g1, he, ho, hl⟩ := h
  exact LPost.after he ho (hk g1 hl)
set_option maxHeartbeats 4000000 in
set_option maxRecDepth 100000 in
theorem run_calls (h : LoopIs k w g p S bs) {B : Nat} (hG : Good B S) (most : Int) (hB : B + most.toNat ≤ 1152921504606846976) :
    Calls Try.prog 16 #[.pointer (some ⟨p, 0, none⟩), .int .i64 most] w fun e w' => e = .returned (.int .i64 (ranF most.toNat S)) ∧ LPost k w g p (runF most.toNat S) w' bs := by
  have H0 := Aside0.mk (LPost.of_below h (Below.refl _ _))
  have HG := Aside0.mk hG
  have HB := Aside0.mk hB
  have hmm : most.toNat ≤ 1152921504606846976 := by omega
  clear h hG hB
  go_enter Try.func16, Try.ntmps16
  go_wp2
  go_loopg [5, 6, 7] most.toNat (fun kq v5 v6 v7 w' => ∃ (i : Nat) (T : LS), v5 = .int .i64 i ∧ i ≤ most.toNat ∧ Aside0 (kq = most.toNat - i) ∧ Aside0 (LPost k w g p T w' bs) ∧ Aside0 (Good (B + i) T) ∧ Aside0 (runF most.toNat S = runF (most.toNat - i) T ∧ ranF most.toNat S = i + ranF (most.toNat - i) T))
  case atStart => exact ⟨0, S, rfl, Nat.zero_le _, ⟨rfl⟩, H0, HG, ⟨rfl, by simp⟩⟩
  case round =>
    obtain ⟨i, T, rfl, hi, HK, HL, HGT, HR⟩ := hrel
    by_cases hlt : i < most.toNat
    · obtain ⟨k1, rfl⟩ : ∃ k1, gk = k1 + 1 := ⟨gk - 1, by have := HK.out; omega⟩
      have HK1 := Aside0.mk (show k1 = most.toNat - (i + 1) by have := HK.out; omega)
      have hli : (i : Int) < most := by omega
      have dl : decide ((i : Int) < most) = true := decide_eq_true hli
      obtain ⟨m, hm⟩ : ∃ m, most.toNat - i = m + 1 := ⟨most.toNat - i - 1, by omega⟩
      have HR1 := HR.out
      rw [hm] at HR1
      have hm1 : most.toNat - (i + 1) = m := by omega
      have HNX := Aside0.mk (fun g1 (hl : LoopIs k wr g1 p T bs) => next_calls hl HGT.out (by have := HB.out; omega))
      have HG2 := Aside0.mk (good_next HGT.out)
      cases hs : stepsF T (pickF T) with
      | true =>
        obtain ⟨r1, r2⟩ := runF_yes (n := m) hs
        have HR2 := Aside0.mk (show runF most.toNat S = runF (most.toNat - (i + 1)) (nextF T) ∧ ranF most.toNat S = (i + 1) + ranF (most.toNat - (i + 1)) (nextF T) by rw [hm1, HR1.1, HR1.2, r1, r2]; exact ⟨rfl, by omega⟩)
        obtain ⟨g1, he1, ho1, hl1⟩ := HL.out
        have HN1 := Aside0.mk (HNX.out g1 hl1)
        rw [hs] at HN1
        have HE1 := Aside0.mk he1
        have HO1 := Aside0.mk ho1
        clear hs r1 r2 he1 ho1 hl1 hm HR1 hm1
        go_wp2_with (go_at_call 22; refine HN1.out.mono ?_; rintro ev w1 ⟨rfl, hp⟩; have HP := Aside0.mk hp; clear hp)
        go_roundg k1
        case measure => omega
        case rel => exact ⟨i + 1, nextF T, by first | rfl | (congr 1; omega) | (simp; done), hlt, HK1, ⟨LPost.after HE1.out HO1.out HP.out⟩, ⟨by have := HG2.out; rw [Nat.add_assoc] at this; exact this⟩, HR2⟩
      | false =>
        obtain ⟨r1, r2⟩ := runF_no (n := m) hs
        have HR2 := Aside0.mk (show runF most.toNat S = nextF T ∧ ranF most.toNat S = i by rw [HR1.1, HR1.2, r1, r2]; exact ⟨rfl, rfl⟩)
        obtain ⟨g1, he1, ho1, hl1⟩ := HL.out
        have HN1 := Aside0.mk (HNX.out g1 hl1)
        rw [hs] at HN1
        have HE1 := Aside0.mk he1
        have HO1 := Aside0.mk ho1
        clear hs r1 r2 he1 ho1 hl1 hm HR1 hm1
        go_wp2_with (go_at_call 22; refine HN1.out.mono ?_; rintro ev w1 ⟨rfl, hp⟩; have HP := Aside0.mk hp; clear hp)
        go_ret
        exact ⟨by rw [HR2.out.2]; rfl, by rw [HR2.out.1]; exact LPost.after HE1.out HO1.out HP.out⟩
    · obtain rfl : i = most.toNat := by omega
      have HR2 := Aside0.mk (show runF most.toNat S = T ∧ ranF most.toNat S = most.toNat by have := HR.out; rw [Nat.sub_self] at this; exact ⟨this.1, this.2⟩)
      have dl : decide (((most.toNat : Nat) : Int) < most) = false := decide_eq_false (by omega)
      go_wp2
      go_ret
      exact ⟨by rw [HR2.out.2]; rfl, by rw [HR2.out.1]; exact HL.out⟩
end
end Go.Proofs.Ytompgphlinjglaa.P
