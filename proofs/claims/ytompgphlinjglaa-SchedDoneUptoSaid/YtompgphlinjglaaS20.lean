/- Contracts: the reference's Step. -/
import Derived.Test.YtompgphlinjglaaS18
import Derived.Test.YtompgphlinjglaaS19
import Derived.Test.YtompgphlinjglaaS13
namespace Go.Proofs.Ytompgphlinjglaa.P
open Go.RowKit Go.Proofs.YtompgphlinjglaaW.PrintWords Go.Proofs.YtompgphlinjglaaW.PrintLast Go.Proofs.YtompgphlinjglaaW.PrintMore
attribute [local go_sem] Oper.semAt_some
set_option linter.unusedVariables false
set_option linter.unusedSimpArgs false

section
variable {k : Nat} {w w1 : World} {g g1 : Nat → Tag} {p : Nat} {S : LS} {A0 : Option Addr} {c0 : Nat} {A1 : Option Addr} {c1 : Nat} {A2 : Option Addr} {c2 : Nat} {At : Option Addr} {ct : Nat} {bs : List Nat}
theorem rstepNot_calls (h : RefIs k w g p S) (hn : S.tasks.length ≤ 64) (pick : Int) (hs : stepsF S pick = false) :
    Calls Try.prog 39 #[.pointer (some ⟨p, 0, none⟩), .int .i64 pick] w fun e w' => e = .returned (.tuple #[.int .i64 0, .bool false]) ∧ Below w.heap.size w w' := by
  have HR := Aside0.mk (rready_calls h hn)
  by_cases hp : pick < 0
  · have hd : decide (pick < 0) = true := decide_eq_true hp
    clear h hn hs hp
    go_enter Try.func39, Try.ntmps39
    go_wp2_with (go_at_call 43; refine HR.out.mono ?_; rintro e w1 ⟨v, rfl, hR, hB⟩; have HB := Aside0.mk hB; obtain ⟨A, c, rfl⟩ := Kd.R_slice hR; clear hR hB)
    go_ret2
    exact ⟨rfl, HB.out⟩
  · have hd : decide (pick < 0) = false := decide_eq_false hp
    have he : readyF S = [] := by
      unfold stepsF at hs
      rw [decide_eq_true (show 0 ≤ pick by omega)] at hs
      simpa using hs
    rw [he] at HR
    clear h hn hs hp he
    go_enter Try.func39, Try.ntmps39
    go_wp2_with (go_at_call 43; refine HR.out.mono ?_; rintro e w1 ⟨v, rfl, hR, hB⟩; have HB := Aside0.mk hB; obtain ⟨A, c, rfl⟩ := Kd.R_slice hR; clear hR hB)
    go_ret2
    exact ⟨rfl, HB.out⟩
def TRN (k n : Nat) : Tag → Prop := fun t => t = .ract k n ∨ t = .rtold k n
theorem RefAt.setTask (h : RefAt k w g p S A0 c0 A1 c1 A2 c2 At ct bs) {n : Nat} (hn : n < S.tasks.length) (t' : TS) (he : Ext w.heap.size g g1) (ho : Only (TRN k n) g w w1) (ha : RActIs k n w1 g1 (bs.getD n 0) t') :
    RefAt k w1 g1 p (setT S n t') A0 c0 A1 c1 A2 c2 At ct bs := by
  have hl : (setT S n t').tasks.length = S.tasks.length := List.length_set
  refine ⟨?_, h.l0, h.l1, h.l2, h.picks.move ho he (by unfold TRN; simp), h.ticks.move ho he (by unfold TRN; simp), h.draws.move ho he (by unfold TRN; simp), ?_, fun j hj => ?_, (he p (blk_lt h.blk)).trans h.tag⟩
  · rw [hl]; exact ho.blk h.blk (by rw [h.tag]; unfold TRN; simp)
  · rw [hl]; exact h.tasks.move rfl ho he (by unfold TRN; simp)
  · rw [hl] at hj
    rw [taskF_setT S n j t' hn]
    by_cases e_ : j = n
    · subst e_; rw [if_pos rfl]; exact ha
    · rw [if_neg e_]; exact (h.each j hj).move ho he (by unfold TRN; simp) (by unfold TRN; simp [e_]) (by unfold TRN; simp [e_])
theorem RActAt.pos1 {n b : Nat} {t : TS} {A : Option Addr} {c : Nat} {v : Value} (h : RActAt k n w g b t A c v) : RActAt k n (w.setCell ⟨b, 1, none⟩ (.int .i64 ((t.pos : Int) + 1))) g b (posT t) A c v ∧ Only (TRN k n) g w (w.setCell ⟨b, 1, none⟩ (.int .i64 ((t.pos : Int) + 1))) := by
  have ho := (Only.refl (fun t => t = Tag.ract k n) g w).setCell (p := ⟨b, 1, none⟩) (.inl h.tag) (.int .i64 ((t.pos : Int) + 1))
  exact ⟨⟨blk_put h.blk 1 _ rfl, h.cap, h.acts.move ho (Ext.refl _ _) (by simp), h.told.move rfl ho (Ext.refl _ _) (by simp), h.tag⟩, ho.mono (fun t ht => .inl ht)⟩
theorem rtell_end {n b : Nat} {w2 : World} {t : TS} {A : Option Addr} {c : Nat} {v v2 : Value} {x : Int} (h : RActAt k n w g b t A c v) (ho : (Kd.int .u64).R 48 w2 0 (fun _ => True) v2 (t.told ++ [x])) (hg : w.grownBy w2 v.ownBlock)
    (hat : v2.ownBlock = v.ownBlock ∨ ∃ j, v2.ownBlock = some j ∧ w.heap.size ≤ j) :
    (w2.heap[b]? = some (.cells #[.slice A t.acts.length c, .int .i64 t.pos, .int .i64 t.wait, v] 78 (0, 0))) ∧ ∃ g' : Nat → Tag, Ext w.heap.size g g' ∧ Only (TRN k n) g w (w2.setCell ⟨b, 3, none⟩ v2) ∧ RActIs k n (w2.setCell ⟨b, 3, none⟩ v2) g' b { t with told := t.told ++ [x] } := by
  have BK2 := blk_grown h.blk hg (Kd.R_ne h.told.1 h.blk (by decide))
  have he : Ext w.heap.size g (putv g v2 (.rtold k n)) := putv_ext (fun j hj hn => by
    rcases hat with hat | ⟨j', hj', hle⟩
    · exact h.told.2 j (by rw [← hat]; exact hj)
    · rw [hj'] at hj; injection hj with hj; omega)
  have ho5 : Only (TRN k n) g w (w2.setCell ⟨b, 3, none⟩ v2) := ((Only.refl (TRN k n) g w).grown hg (fun j hj => .inl (.inr (h.told.2 j hj)))).setCell (p := ⟨b, 3, none⟩) (.inl (.inl h.tag)) v2
  exact ⟨BK2, putv g v2 (.rtold k n), he, ho5, A, c, v2, blk_put BK2 3 _ rfl, h.cap, h.acts.move ho5 he (by unfold TRN; simp), ⟨Kd.R_set ho BK2 (by decide) 3 v2, fun j hj => putv_at hj⟩, (he b (blk_lt h.blk)).trans h.tag⟩
theorem RefAt.cellsT {gt : Nat} (h : RefAt k w g p S A0 c0 A1 c1 A2 c2 (some ⟨gt, 0, none⟩) ct bs) {m n : Nat} (hm : S.tasks.length = m) (hn : n < m) : w.cell? ⟨p, 3, none⟩ = some (.slice (some ⟨gt, 0, none⟩) m ct) ∧ w.cell? ⟨gt, n, none⟩ = some (.pointer (some ⟨bs.getD n 0, 0, none⟩)) := ⟨(h.cells hm hn).1, (h.cells hm hn).2.1⟩
/-- What a call of the reference's leaves. -/
def RPost (k : Nat) (w : World) (g : Nat → Tag) (p : Nat) (T : LS) (w' : World) : Prop := ∃ g', Ext w.heap.size g g' ∧ Only (TR k) g w w' ∧ RefIs k w' g' p T
theorem TRN_TR {k n : Nat} : ∀ t, TRN k n t → TR k t := fun t ht => by rcases ht with h | h <;> subst h <;> rfl
theorem TRA_TR {k : Nat} : ∀ t, TRA k t → TR k t := fun t ht => by cases t <;> first | exact ht | exact ht.elim
theorem tickF_fields (S : LS) : (tickF S).picks = S.picks ∧ (tickF S).ticks = S.ticks ∧ (tickF S).draws = S.draws ∧ (tickF S).tasks = S.tasks ∧ (tickF S).count = S.count ∧ (tickF S).used = S.used ∧ (tickF S).drawn = S.drawn := by unfold tickF; split <;> exact ⟨rfl, rfl, rfl, rfl, rfl, rfl, rfl⟩
set_option maxHeartbeats 16000000 in
set_option maxRecDepth 100000 in
theorem rstepYes_calls (h : RefAt k w g p S A0 c0 A1 c1 A2 c2 At ct bs) {B : Nat} (hG : Good B S) (hB : B ≤ 1152921504606846976) (pick : Int) (hs : stepsF S pick = true) :
    Calls Try.prog 39 #[.pointer (some ⟨p, 0, none⟩), .int .i64 pick] w fun ev w' => ev = .returned (.tuple #[.int .i64 (goesF S pick), .bool true]) ∧ RPost k w g p (stepF S pick) w' := by
  have HRD := Aside0.mk (rready_calls ⟨_, _, _, _, _, _, _, _, _, h⟩ hG.tasks)
  obtain ⟨p0, m0⟩ := steps_yes hs
  obtain ⟨q, hq, hqm, hqr, hn, hnw⟩ := goes_at hs
  have HS := Aside0.mk hs
  have HGD := Aside0.mk hG
  have HL := Aside0.mk h
  have HQ := Aside0.mk hq
  have HQR := Aside0.mk hqr
  have HNW := Aside0.mk hnw
  obtain ⟨n, hnn⟩ : ∃ n, goesF S pick = n := ⟨_, rfl⟩
  rw [hnn] at hn HQR HNW ⊢
  have HN := Aside0.mk hnn
  obtain ⟨rs, hrs⟩ : ∃ rs, readyF S = rs := ⟨_, rfl⟩
  rw [hrs] at m0 hqm HRD HQ HQR
  have hd : decide (pick < 0) = false := decide_eq_false (by omega)
  have hd2 : (rs.length == 0) = false := beq_eq_false_iff_ne.mpr (by omega)
  have hd3 : ((rs.length : Int) == 0) = false := beq_eq_false_iff_ne.mpr (by omega)
  clear h hs hq hqr hnw hnn hrs
  have hcb : S.count ≤ 1152921504606846976 := Nat.le_trans hG.count hB
  have htl : S.ticks.length ≤ 65536 := hG.ticks
  have HDR := Aside0.mk (show S.drawn ≤ 4611686018427387904 from Nat.le_trans hG.drawn (by omega))
  clear hG
  go_enter Try.func39, Try.ntmps39
  go_upto_region 4 with (go_at_call 43; refine HRD.out.mono ?_; rintro ev w1 ⟨v1, rfl, hR, hb⟩; have HR := Aside0.mk hR; have HB1 := Aside0.mk hb; obtain ⟨P1, q1, rfl⟩ := Kd.R_slice hR; clear hR hb)
  have L1 := Aside0.mk (HL.out.below HB1.out)
  have hm := (blkc L1.out.blk 1 rfl).1
  have hm2 := (blkc L1.out.blk 5 rfl).1
  go_quiet (fail)
  clear hm hm2
  have L2 := Aside0.mk (L1.out.drewN nq)
  have HR2 := Aside0.mk (Kd.R_drewN HR.out nq)
  have HB2 := Aside0.mk (pw_below_drewN HB1.out nq)
  clear L1 HR HB1
  generalize w1.drewN nq = w2 at L2 HR2 HB2 ⊢
  go_upto_if 29 with (fail)
  have HTL := Aside0.mk htl
  clear htl
  go_cut [] (fun wc => Aside0 (RefAt k wc g p (tickF S) A0 c0 A1 c1 A2 c2 At ct bs) ∧ Aside0 ((Kd.int .i64).R 3 wc w.heap.size (fun _ => True) (.slice P1 rs.length q1) rs) ∧ Aside0 (Only (TR k) g w wc))
  case first =>
    by_cases hlt : S.count < S.ticks.length
    · have dt : decide (S.count < S.ticks.length) = true := decide_eq_true hlt
      obtain ⟨ad, ea, hx⟩ := Kd.at_int L2.out.ticks.now (S.count : Int) (Int.natCast_nonneg _) (by omega)
      subst ea
      rw [Int.toNat_natCast] at hx
      have hx' : w2.cell? (ad.add S.count) = some (.int .i64 (S.ticks.getD S.count 0)) := by rw [hx]; simp [rd]
      clear hx
      obtain ⟨x, hxe⟩ : ∃ x, S.ticks.getD S.count 0 = x := ⟨_, rfl⟩
      rw [hxe] at hx'
      have HXE := Aside0.mk hxe
      have hi0 : (S.count : Int) < (S.ticks.length : Int) := by omega
      have hle := blk_lt HL.out.blk
      have hlt' := Aside0.mk hlt
      have ef := (blkc L2.out.blk 4 rfl).2
      clear hxe hlt
      go_upto_region 5 with (fail)
      refine start_ (n := 21) (S := fun w' => w'.cell? ⟨p, 4, none⟩ = some (.int .u64 S.clock) ∧ w'.cell? ⟨p, 1, none⟩ = some (.slice (some ad) S.ticks.length c1) ∧ w'.cell? ⟨p, 5, none⟩ = some (.int .i64 S.count) ∧ w'.cell? (ad.add S.count) = some (.int .i64 x)) (ds := [20]) #[false, false, false, false, false, false, false, false, false, false, false, false, false, false, false, false, false, false, false, false, false] (by kernel_rfl) rfl rfl ⟨((blk_cell L2.out.blk 4).trans rfl), ((blk_cell L2.out.blk 1).trans rfl), ((blk_cell L2.out.blk 5).trans rfl), hx'⟩ (fun hHeld => ?_)
      refine pure_ (i := 0) (N := some 30) (v := ?_) (a' := ?_) #[true, false, false, false, false, false, false, false, false, false, false, false, false, false, false, false, false, false, false, false, false] rfl rfl (by kernel_rfl) (fun _ _ _ h => h) (Or.inl ⟨by rfl, ?_⟩) ?_ ?_
      rotate_left
      · intro w'
        go_simp
        with_reducible rfl
      rotate_left
      · simp only [Act.put, List.setIfInBounds_toArray, List.set_cons_zero, List.set_cons_succ, i64_w, i32_w]
        rfl
      refine pure_ (i := 1) (N := some 31) (v := ?_) (a' := ?_) #[true, true, false, false, false, false, false, false, false, false, false, false, false, false, false, false, false, false, false, false, false] rfl rfl (by kernel_rfl) (fun _ _ _ h => h) (Or.inl ⟨by rfl, ?_⟩) ?_ ?_
      rotate_left
      · intro w'
        go_simp
        with_reducible rfl
      rotate_left
      · simp only [Act.put, List.setIfInBounds_toArray, List.set_cons_zero, List.set_cons_succ, i64_w, i32_w]
        rfl
      refine pure_ (i := 2) (N := some 32) (v := ?_) (a' := ?_) #[true, true, true, false, false, false, false, false, false, false, false, false, false, false, false, false, false, false, false, false, false] rfl rfl (by kernel_rfl) (fun _ _ _ h => h) (Or.inl ⟨by rfl, ?_⟩) ?_ ?_
      rotate_left
      · intro w'
        go_simp
        with_reducible rfl
      rotate_left
      · simp only [Act.put, List.setIfInBounds_toArray, List.set_cons_zero, List.set_cons_succ, i64_w, i32_w]
        rfl
      refine pure_ (i := 3) (N := some 33) (v := ?_) (a' := ?_) #[true, true, true, true, false, false, false, false, false, false, false, false, false, false, false, false, false, false, false, false, false] rfl rfl (by kernel_rfl) (fun _ _ _ h => h) (Or.inl ⟨by rfl, ?_⟩) ?_ ?_
      rotate_left
      · intro w'
        go_simp
        with_reducible rfl
      rotate_left
      · simp only [Act.put, List.setIfInBounds_toArray, List.set_cons_zero, List.set_cons_succ, i64_w, i32_w]
        rfl
      refine pure_ (i := 5) (N := some 35) (v := ?_) (a' := ?_) #[true, true, true, true, false, true, false, false, false, false, false, false, false, false, false, false, false, false, false, false, false] rfl rfl (by kernel_rfl) (fun _ _ _ h => h) (Or.inl ⟨by rfl, ?_⟩) ?_ ?_
      rotate_left
      · intro w'
        go_simp
        with_reducible rfl
      rotate_left
      · simp only [Act.put, List.setIfInBounds_toArray, List.set_cons_zero, List.set_cons_succ, i64_w, i32_w]
        rfl
      refine pure_ (i := 6) (N := some 36) (v := ?_) (a' := ?_) #[true, true, true, true, false, true, true, false, false, false, false, false, false, false, false, false, false, false, false, false, false] rfl rfl (by kernel_rfl) (fun _ _ _ h => h) (Or.inl ⟨by rfl, ?_⟩) ?_ ?_
      rotate_left
      · intro w'
        go_simp
        with_reducible rfl
      rotate_left
      · simp only [Act.put, List.setIfInBounds_toArray, List.set_cons_zero, List.set_cons_succ, i64_w, i32_w]
        rfl
      refine pure_ (i := 7) (N := some 37) (v := ?_) (a' := ?_) #[true, true, true, true, false, true, true, true, false, false, false, false, false, false, false, false, false, false, false, false, false] rfl rfl (by kernel_rfl) (fun _ _ _ h => h) (Or.inl ⟨by rfl, ?_⟩) ?_ ?_
      rotate_left
      · intro w'
        go_simp
        with_reducible rfl
      rotate_left
      · simp only [Act.put, List.setIfInBounds_toArray, List.set_cons_zero, List.set_cons_succ, i64_w, i32_w]
        rfl
      refine pure_ (i := 8) (N := some 38) (v := ?_) (a' := ?_) #[true, true, true, true, false, true, true, true, true, false, false, false, false, false, false, false, false, false, false, false, false] rfl rfl (by kernel_rfl) (fun _ _ _ h => h) (Or.inl ⟨by rfl, ?_⟩) ?_ ?_
      rotate_left
      · intro w'
        go_simp
        with_reducible rfl
      rotate_left
      · simp only [Act.put, List.setIfInBounds_toArray, List.set_cons_zero, List.set_cons_succ, i64_w, i32_w]
        rfl
      refine pure_ (i := 10) (N := some 40) (v := ?_) (a' := ?_) #[true, true, true, true, false, true, true, true, true, false, true, false, false, false, false, false, false, false, false, false, false] rfl rfl (by kernel_rfl) (fun _ _ _ h => h) (Or.inl ⟨by rfl, ?_⟩) ?_ ?_
      rotate_left
      · intro w'
        go_simp
        with_reducible rfl
      rotate_left
      · simp only [Act.put, List.setIfInBounds_toArray, List.set_cons_zero, List.set_cons_succ, i64_w, i32_w]
        rfl
      refine pure_ (i := 11) (N := some 41) (v := ?_) (a' := ?_) #[true, true, true, true, false, true, true, true, true, false, true, true, false, false, false, false, false, false, false, false, false] rfl rfl (by kernel_rfl) (fun _ _ _ h => h) (Or.inl ⟨by rfl, ?_⟩) ?_ ?_
      rotate_left
      · intro w'
        go_simp
        with_reducible rfl
      rotate_left
      · simp only [Act.put, List.setIfInBounds_toArray, List.set_cons_zero, List.set_cons_succ, i64_w, i32_w]
        rfl
      refine pure_ (i := 12) (N := some 42) (v := ?_) (a' := ?_) #[true, true, true, true, false, true, true, true, true, false, true, true, true, false, false, false, false, false, false, false, false] rfl rfl (by kernel_rfl) (fun _ _ _ h => h) (Or.inl ⟨by rfl, ?_⟩) ?_ ?_
      rotate_left
      · intro w'
        go_simp
        with_reducible rfl
      rotate_left
      · simp only [Act.put, List.setIfInBounds_toArray, List.set_cons_zero, List.set_cons_succ, i64_w, i32_w]
        rfl
      refine take_ (i := 4) (N := some 34) (v := ?_) (a' := ?_) #[true, true, true, true, true, true, true, true, true, false, true, true, true, false, false, false, false, false, false, false, false] rfl rfl (by kernel_rfl) (fun _ _ _ h => h) (Or.inl ⟨by rfl, ?_⟩) hHeld ?_ ?_
      rotate_left
      · rintro w' ⟨s0, s1, s2, s3⟩
        go_simp
        with_reducible rfl
      rotate_left
      · simp only [Act.put, List.setIfInBounds_toArray, List.set_cons_zero, List.set_cons_succ, i64_w, i32_w]
        rfl
      refine take_ (i := 9) (N := some 39) (v := ?_) (a' := ?_) #[true, true, true, true, true, true, true, true, true, true, true, true, true, false, false, false, false, false, false, false, false] rfl rfl (by kernel_rfl) (fun _ _ _ h => h) (Or.inl ⟨by rfl, ?_⟩) hHeld ?_ ?_
      rotate_left
      · rintro w' ⟨s0, s1, s2, s3⟩
        go_simp
        with_reducible rfl
      rotate_left
      · simp only [Act.put, List.setIfInBounds_toArray, List.set_cons_zero, List.set_cons_succ, i64_w, i32_w]
        rfl
      refine take_ (i := 13) (N := some 43) (v := ?_) (a' := ?_) #[true, true, true, true, true, true, true, true, true, true, true, true, true, true, false, false, false, false, false, false, false] rfl rfl (by kernel_rfl) (fun _ _ _ h => h) (Or.inl ⟨by rfl, ?_⟩) hHeld ?_ ?_
      rotate_left
      · rintro w' ⟨s0, s1, s2, s3⟩
        go_simp
        with_reducible rfl
      rotate_left
      · simp only [Act.put, List.setIfInBounds_toArray, List.set_cons_zero, List.set_cons_succ, i64_w, i32_w]
        rfl
      refine pure_ (i := 14) (N := some 44) (v := ?_) (a' := ?_) #[true, true, true, true, true, true, true, true, true, true, true, true, true, true, true, false, false, false, false, false, false] rfl rfl (by kernel_rfl) (fun _ _ _ h => h) (Or.inl ⟨by rfl, ?_⟩) ?_ ?_
      rotate_left
      · intro w'
        go_simp
        with_reducible rfl
      rotate_left
      · simp only [Act.put, List.setIfInBounds_toArray, List.set_cons_zero, List.set_cons_succ, i64_w, i32_w]
        rfl
      refine take_ (i := 15) (N := some 45) (v := ?_) (a' := ?_) #[true, true, true, true, true, true, true, true, true, true, true, true, true, true, true, true, false, false, false, false, false] rfl rfl (by kernel_rfl) (fun _ _ _ h => h) (Or.inl ⟨by rfl, ?_⟩) hHeld ?_ ?_
      rotate_left
      · rintro w' ⟨s0, s1, s2, s3⟩
        go_simp
        with_reducible rfl
      rotate_left
      · simp only [Act.put, List.setIfInBounds_toArray, List.set_cons_zero, List.set_cons_succ, i64_w, i32_w]
        rfl
      refine pure_ (i := 16) (N := some 46) (v := ?_) (a' := ?_) #[true, true, true, true, true, true, true, true, true, true, true, true, true, true, true, true, true, false, false, false, false] rfl rfl (by kernel_rfl) (fun _ _ _ h => h) (Or.inl ⟨by rfl, ?_⟩) ?_ ?_
      rotate_left
      · intro w'
        go_simp
        with_reducible rfl
      rotate_left
      · simp only [Act.put, List.setIfInBounds_toArray, List.set_cons_zero, List.set_cons_succ, i64_w, i32_w]
        rfl
      refine pure_ (i := 17) (N := some 47) (v := ?_) (a' := ?_) #[true, true, true, true, true, true, true, true, true, true, true, true, true, true, true, true, true, true, false, false, false] rfl rfl (by kernel_rfl) (fun _ _ _ h => h) (Or.inl ⟨by rfl, ?_⟩) ?_ ?_
      rotate_left
      · intro w'
        go_simp
        with_reducible rfl
      rotate_left
      · simp only [Act.put, List.setIfInBounds_toArray, List.set_cons_zero, List.set_cons_succ, i64_w, i32_w]
        rfl
      refine pure_ (i := 18) (N := some 48) (v := ?_) (a' := ?_) #[true, true, true, true, true, true, true, true, true, true, true, true, true, true, true, true, true, true, true, false, false] rfl rfl (by kernel_rfl) (fun _ _ _ h => h) (Or.inl ⟨by rfl, ?_⟩) ?_ ?_
      rotate_left
      · intro w'
        go_simp
        with_reducible rfl
      rotate_left
      · simp only [Act.put, List.setIfInBounds_toArray, List.set_cons_zero, List.set_cons_succ, i64_w, i32_w]
        rfl
      refine pure_ (i := 19) (N := some 49) (v := ?_) (a' := ?_) #[true, true, true, true, true, true, true, true, true, true, true, true, true, true, true, true, true, true, true, true, false] rfl rfl (by kernel_rfl) (fun _ _ _ h => h) (Or.inl ⟨by rfl, ?_⟩) ?_ ?_
      rotate_left
      · intro w'
        go_simp
        with_reducible rfl
      rotate_left
      · simp only [Act.put, List.setIfInBounds_toArray, List.set_cons_zero, List.set_cons_succ, i64_w, i32_w]
        rfl
      refine last_ (i := 20) (N := none) #[true, true, true, true, true, true, true, true, true, true, true, true, true, true, true, true, true, true, true, true, true] rfl rfl (by kernel_rfl) (by decide) (fun K hK => ?_)
      refine skip_ (w1 := ?_) (by rfl) rfl ?_ ?_
      rotate_left
      · go_simp
        rfl
      refine hK.out _ _ ?_
      clear hK K
      refine done_ (by kernel_rfl) ?_
      go_wp2
      go_meet
      case rel =>
        have HT : tickF S = { S with clock := IntKind.u64.wrap (S.clock + IntKind.u64.wrap x) } := by unfold tickF; rw [if_pos hlt'.out, HXE.out]
        obtain ⟨l3, o3⟩ := L2.out.put 4 (.int .u64 (IntKind.u64.wrap (S.clock + IntKind.u64.wrap x))) { S with clock := IntKind.u64.wrap (S.clock + IntKind.u64.wrap x) } rfl rfl rfl rfl rfl
        exact ⟨⟨by rw [HT]; exact l3.drew⟩, ⟨Kd.R_drew (Kd.R_mono (Kd.R_far (Kd.R_bound HR2.out) (p := ⟨p, 4, none⟩) (fun j hj => by have := hj.2.1; show j ≠ p; omega) _) (fun _ _ => trivial))⟩, ⟨((Only.of_below HB2.out (TR k) g).trans (o3.mono (fun t ht => by subst ht; rfl)) (Ext.refl _ _)).drew⟩⟩
    · have dt : decide (S.count < S.ticks.length) = false := decide_eq_false hlt
      have HT := Aside0.mk (show tickF S = S by unfold tickF; rw [if_neg hlt])
      go_wp2
      go_meet
      case rel => exact ⟨⟨by rw [HT.out]; exact L2.out⟩, HR2, ⟨Only.of_below HB2.out _ _⟩⟩
  case rest =>
    obtain ⟨L3, HR3, HO3⟩ := hcut
    obtain ⟨wa, rfl⟩ : ∃ wa : World, wa = wc := ⟨_, rfl⟩
    obtain ⟨S1, hS1⟩ : ∃ S1, tickF S = S1 := ⟨_, rfl⟩
    obtain ⟨_, _, _, ft, fc, _, fd⟩ := tickF_fields S
    rw [hS1] at L3 ft fc fd
    have HS1 := Aside0.mk hS1
    have FT := Aside0.mk ft
    have HG1 := Aside0.mk (show Good B S1 by rw [← hS1]; exact good_tick HGD.out)
    have HDR1 := Aside0.mk (show S1.drawn ≤ 4611686018427387904 by rw [fd]; exact HDR.out)
    have hc1 : S1.count ≤ 1152921504606846976 := by rw [fc]; exact hcb
    have FC := Aside0.mk fc
    clear hS1 ft fc fd
    obtain ⟨y5, f5⟩ := blkc L3.out.blk 5 rfl
    go_upto_region 7 with (fail)
    obtain ⟨l4, o4⟩ := L3.out.put 5 (.int .i64 ((S1.count : Int) + 1)) { S1 with count := S1.count + 1 } rfl rfl rfl rfl rfl
    have L4 := Aside0.mk l4
    have HO4 := Aside0.mk (HO3.out.trans (o4.mono (T' := TR k) (fun t ht => by subst ht; rfl)) (Ext.refl _ _))
    have HR4 := Aside0.mk (show (Kd.int .i64).R 3 (wa.setCell ⟨p, 5, none⟩ (.int .i64 ((S1.count : Int) + 1))) w.heap.size (fun _ => True) (.slice P1 rs.length q1) rs from Kd.R_mono (Kd.R_far (Kd.R_bound HR3.out) (p := ⟨p, 5, none⟩) (fun j hj => by have := hj.2.1; have := blk_lt HL.out.blk; show j ≠ p; omega) _) (fun _ _ => trivial))
    clear l4 o4 y5 f5 HR3 HR2 L2 L3
    generalize wa.setCell ⟨p, 5, none⟩ (.int .i64 ((S1.count : Int) + 1)) = wb at L4 HO4 HR4 ⊢
    obtain ⟨S2, hS2⟩ : ∃ S2 : LS, { S1 with count := S1.count + 1 } = S2 := ⟨_, rfl⟩
    rw [hS2] at L4
    have HS2 := Aside0.mk hS2
    have HT2 := Aside0.mk (show S2.tasks = S1.tasks by rw [← hS2])
    have HDR2 := Aside0.mk (show S2.drawn ≤ 4611686018427387904 by rw [← hS2]; exact HDR1.out)
    have hn2 : n < S2.tasks.length := by rw [HT2.out, FT.out]; exact hn
    have HE2 := Aside0.mk (show ∀ t ∈ S2.tasks, GoodT t by rw [HT2.out]; exact HG1.out.each)
    have HL2 := Aside0.mk (show S2.draws.length ≤ 65536 by rw [← hS2]; exact HG1.out.draws)
    have HTK2 := Aside0.mk (show S2.tasks.length ≤ 64 by rw [HT2.out]; exact HG1.out.tasks)
    have HW2 := Aside0.mk (show (taskF S2 n).wait = 0 by unfold taskF; rw [HT2.out, FT.out]; exact HNW.out)
    clear hS2
    obtain ⟨g0, q0, ev, _, _, _⟩ := Kd.R_form HR4.out m0
    have e1 : P1 = some ⟨g0, 0, none⟩ := by injection ev
    cases e1
    clear ev
    obtain ⟨hx, _⟩ := Kd.R_celln (0 : Int) HR4.out (q : Int) (Int.natCast_nonneg _) (by omega)
    rw [Int.toNat_natCast, HQR.out] at hx
    have hq := HQ.out
    have q1' : (q : Int) < (rs.length : Int) := by omega
    go_upto_region 8 with (fail)
    clear hx hq q1' HR4
    have hn20 : (n : Int) < (S2.tasks.length : Int) := by omega
    obtain ⟨gt, e1⟩ := L4.out.form (by omega)
    subst e1
    obtain ⟨x3, x4⟩ := L4.out.cellsT rfl hn2
    obtain ⟨b, hbb⟩ : ∃ b, bs.getD n 0 = b := ⟨_, rfl⟩
    rw [hbb] at x4
    have HBB := Aside0.mk hbb
    clear hbb
    go_upto_region 9 with (fail)
    clear x3 x4
    obtain ⟨A, c, v, ha⟩ := L4.out.each n hn2
    rw [HBB.out] at ha
    obtain ⟨t, ht⟩ : ∃ t, taskF S2 n = t := ⟨_, rfl⟩
    rw [ht] at ha HW2
    have HTE := Aside0.mk ht
    have hgt := task_good HE2.out hn2
    rw [ht] at hgt
    have HGT := Aside0.mk hgt
    obtain ⟨z0, _⟩ := blkc ha.blk 0 rfl
    obtain ⟨z1, _⟩ := blkc ha.blk 1 rfl
    have HAC := Aside0.mk ha
    clear ha ht hgt
    go_quiet (fail)
    clear z0 z1
    have L5 := Aside0.mk (L4.out.drewN nq)
    have HO5 := Aside0.mk (HO4.out.drewN nq)
    clear L4 HO4 HAC
    generalize wb.drewN nq = wd at L5 HO5 ⊢
    go_upto_if 80 with (fail)
    go_cut [] (fun wc => ∃ g4, Aside0 (RefAt k wc g4 p (midF S2 n) A0 c0 A1 c1 A2 c2 (some ⟨gt, 0, none⟩) ct bs) ∧ Aside0 (Ext wd.heap.size g g4) ∧ Aside0 (Only (TR k) g w wc))
    case first =>
      by_cases hp : t.pos < t.acts.length
      · have dt : decide (t.pos < t.acts.length) = true := decide_eq_true hp
        obtain ⟨A, c, v, ha⟩ := L5.out.each n hn2
        rw [HBB.out, HTE.out] at ha
        obtain ⟨Av, qv, rfl⟩ := Kd.R_slice ha.told.1
        obtain ⟨ad, ea, x0, x1⟩ := at_act ha.acts.now t.pos hp
        subst ea
        have HAC := Aside0.mk ha
        have hp2 : (t.pos : Int) < (t.acts.length : Int) := by omega
        have hp3 : t.acts.length ≤ 9223372036854775807 := by have := HGT.out.2.2.1; omega
        have hS : ∀ w', Below wd.heap.size wd w' → w'.cell? ⟨b, 0, none⟩ = some (.slice (some ad) t.acts.length c) ∧ w'.cell? ⟨b, 1, none⟩ = some (.int .i64 t.pos) ∧ w'.cell? (ad.add (t.pos * 2)) = some (.int .i64 (actF t).1) ∧ w'.cell? ⟨(ad.add (t.pos * 2)).block, (ad.add (t.pos * 2)).off + 1, none⟩ = some (.int .i64 (actF t).2) := fun w' h2 =>
          ⟨pw_cell_below h2 (blkc HAC.out.blk 0 rfl).1, pw_cell_below h2 (blkc HAC.out.blk 1 rfl).1, pw_cell_below h2 x0, pw_cell_below h2 x1⟩
        obtain ⟨s0, s1, s2, s3⟩ := hS wd (Below.refl _ _)
        have HSS := Aside0.mk hS
        have HWD := Aside0.mk (Below.refl wd.heap.size wd)
        have hltb := blk_lt ha.blk
        have hbp : b ≠ p := by intro e_; have := ha.tag; rw [e_, HL.out.tag] at this; cases this
        have HHP := Aside0.mk hp
        clear hS x0 x1 ha
        go_upto_region 10 with (fail)
        go_cut [9] (fun v9 w9 => ∃ b9, v9 = .pointer (some ⟨b9, 0, none⟩) ∧ wd.heap.size ≤ b9 ∧ Aside0 (w9.heap[b9]? = some (.cells #[.int .i64 (actF t).1, .int .i64 (actF t).2] 31 (0, 0))) ∧ Aside0 (Below wd.heap.size wd w9))
        case first =>
          go_region_held3 (fun w' => w'.cell? ⟨b, 0, none⟩ = some (.slice (some ad) t.acts.length c) ∧ w'.cell? ⟨b, 1, none⟩ = some (.int .i64 t.pos) ∧ w'.cell? (ad.add (t.pos * 2)) = some (.int .i64 (actF t).1) ∧ w'.cell? ⟨(ad.add (t.pos * 2)).block, (ad.add (t.pos * 2)).off + 1, none⟩ = some (.int .i64 (actF t).2)) (exact HSS.out _ (by first | exact HWD.out | exact below_drew HWD.out | exact below_alloc HWD.out _ | exact below_drew (below_alloc HWD.out _) | exact below_alloc (below_drew HWD.out) _)) (first | (fail))
          go_wp2
          go_meet
          case rel => exact ⟨wd.heap.size, rfl, Nat.le_refl _, ⟨blk_drew (blk_new wd _)⟩, ⟨below_drew (below_alloc HWD.out _)⟩⟩
        case rest =>
          obtain ⟨b9, rfl, hb9, X9, HB9⟩ := hcut
          obtain ⟨w9, rfl⟩ : ∃ wo : World, wo = wc := ⟨_, rfl⟩
          obtain ⟨s0, s1, _, _⟩ := HSS.out w9 HB9.out
          have hf := (blkc (blk_below HAC.out.blk HB9.out) 1 rfl).2
          go_upto_region 12 with (fail)
          clear s0 s1 hf dt
          have HA9 : RActAt k n w9 g b t (some ad) c (.slice Av t.told.length qv) := ⟨blk_below HAC.out.blk HB9.out, HAC.out.cap, HAC.out.acts.move (Only.of_below HB9.out (fun _ => False) g) (Ext.refl _ _) (fun h => h), HAC.out.told.move rfl (Only.of_below HB9.out (fun _ => False) g) (Ext.refl _ _) (fun h => h), HAC.out.tag⟩
          obtain ⟨ha10, o10⟩ := HA9.pos1
          have ne9 : b9 ≠ b := by omega
          have HA := Aside0.mk ha10
          have O10 := Aside0.mk ((Only.of_below HB9.out (TRN k n) g).trans o10 (Ext.refl _ _))
          have L6 := Aside0.mk (L5.out.setTask hn2 (posT t) (Ext.refl _ _) O10.out (by rw [HBB.out]; exact ⟨_, _, _, ha10⟩))
          have X10 := Aside0.mk (blk_far X9.out (p := ⟨b, 1, none⟩) ne9 (.int .i64 ((t.pos : Int) + 1)))
          have HO6 := Aside0.mk (HO5.out.trans (O10.out.mono TRN_TR) (Ext.refl _ _))
          clear HA9 ha10 o10 X9 HB9 HAC HSS HWD
          generalize w9.setCell ⟨b, 1, none⟩ (.int .i64 ((t.pos : Int) + 1)) = we at HA L6 X10 HO6 O10 ⊢
          obtain ⟨S3, hS3⟩ : ∃ S3, setT S2 n (posT t) = S3 := ⟨_, rfl⟩
          rw [hS3] at L6
          have HS3 := Aside0.mk hS3
          have hl3 : S3.tasks.length = S2.tasks.length := by rw [← hS3]; exact List.length_set
          have hn3 : n < S3.tasks.length := by rw [hl3]; exact hn2
          have HT3 := Aside0.mk (show taskF S3 n = posT t by rw [← hS3, taskF_setT S2 n n _ hn2, if_pos rfl])
          have HTK3 := Aside0.mk (show S3.tasks.length ≤ 64 by rw [hl3]; exact HTK2.out)
          have HDR3 := Aside0.mk (show S3.drawn ≤ 4611686018427387904 by rw [← hS3]; exact HDR2.out)
          have HDL3 := Aside0.mk (show S3.draws.length ≤ 65536 by rw [← hS3]; exact HL2.out)
          have HCL3 := Aside0.mk (show S3.clock = S2.clock by rw [← hS3]; rfl)
          have HSZ := Aside0.mk (show wd.heap.size ≤ we.heap.size from O10.out.size)
          clear hS3 hl3
          obtain ⟨y0, _⟩ := blkc X10.out 0 rfl
          obtain ⟨y1, _⟩ := blkc X10.out 1 rfl
          go_upto_block 0 with (fail)
          clear y0
          by_cases k2 : (actF t).1 = 2
          · have e2 : ((actF t).1 == 2) = true := by simp [k2]
            have K := Aside0.mk k2
            obtain ⟨x, hx⟩ : ∃ x, (actF t).2 = x := ⟨_, rfl⟩
            rw [hx] at y1
            have HX := Aside0.mk hx
            obtain ⟨hc2, hf2⟩ := blkc HA.out.blk 2 rfl
            clear k2 hx
            by_cases hx1 : 1 ≤ x
            · have dx1 : decide (1 ≤ x) = true := decide_eq_true hx1
              by_cases hx2 : x ≤ 1024
              · have dx2 : decide (x ≤ 1024) = true := decide_eq_true hx2
                have HM := Aside0.mk (show midF S2 n = setWait S3 n x by
                  unfold midF
                  rw [HTE.out, if_pos HHP.out, if_pos K.out, if_pos (by rw [HX.out]; exact ⟨hx1, hx2⟩), ← HS3.out, setWait_setT S2 n (posT t) x hn2, HX.out])
                obtain ⟨l7, o7⟩ := L6.out.setW hn3 x
                rw [HBB.out] at l7 o7
                have L7 := Aside0.mk l7
                have O7 := Aside0.mk (HO6.out.trans (o7.mono TRA_TR) (Ext.refl _ _))
                clear l7 o7
                go_wp2
                go_meet
                case rel => exact ⟨g, ⟨by rw [HM.out]; exact L7.out⟩, ⟨Ext.refl _ _⟩, O7⟩
              · have dx2 : decide (x ≤ 1024) = false := decide_eq_false hx2
                have HM := Aside0.mk (show midF S2 n = S3 by
                  unfold midF
                  rw [HTE.out, if_pos HHP.out, if_pos K.out, if_neg (by rw [HX.out]; exact fun hh => hx2 hh.2), HS3.out])
                go_wp2
                go_meet
                case rel => exact ⟨g, ⟨by rw [HM.out]; exact L6.out⟩, ⟨Ext.refl _ _⟩, HO6⟩
            · have dx1 : decide (1 ≤ x) = false := decide_eq_false hx1
              have HM := Aside0.mk (show midF S2 n = S3 by
                unfold midF
                rw [HTE.out, if_pos HHP.out, if_pos K.out, if_neg (by rw [HX.out]; exact fun hh => hx1 hh.1), HS3.out])
              go_wp2
              go_meet
              case rel => exact ⟨g, ⟨by rw [HM.out]; exact L6.out⟩, ⟨Ext.refl _ _⟩, HO6⟩
          by_cases k3 : (actF t).1 = 3
          · have e2 : ((actF t).1 == 2) = false := by simp [k3]
            have e3 : ((actF t).1 == 3) = true := by simp [k3]
            have K := Aside0.mk k3
            have HM := Aside0.mk (show midF S2 n = wakeF (actF t).2 S3 by
              unfold midF
              rw [HTE.out, if_pos HHP.out, if_neg k2, if_pos k3, HS3.out])
            clear k2 k3
            go_wp2_with (go_at_call 42; refine (rwakeAt_calls L6.out HTK3.out _).mono ?_; rintro ev w7 ⟨rfl, hL, hO⟩; have L7 := Aside0.mk hL; have O7 := Aside0.mk (HO6.out.trans (hO.mono TRA_TR) (Ext.refl _ _)); clear hL hO)
            go_meet
            case rel => exact ⟨g, ⟨by rw [HM.out]; exact L7.out⟩, ⟨Ext.refl _ _⟩, O7⟩
          have hln : t.told.length + 1 ≤ maxLen := by have := HGT.out.1; have := HGT.out.2.2.1; unfold maxLen; omega
          have hbn : (t.told.length + 1) * 8 ≤ 140737488355328 := by have := HGT.out.1; have := HGT.out.2.2.1; omega
          have HLN := Aside0.mk hln
          have HBN := Aside0.mk hbn
          obtain ⟨i48, hi0, hz0, hz1, hz2⟩ := info_parts info48
          have HI := Aside0.mk hi0
          have HZ0 := Aside0.mk hz0
          have HZ1 := Aside0.mk hz1
          have HZ2 := Aside0.mk hz2
          clear hln hbn hi0 hz0 hz1 hz2
          by_cases k4 : (actF t).1 = 4
          · have e2 : ((actF t).1 == 2) = false := by simp [k4]
            have e3 : ((actF t).1 == 3) = false := by simp [k4]
            have e4 : ((actF t).1 == 4) = true := by simp [k4]
            have HM := Aside0.mk (show midF S2 n = setT S3 n { posT t with told := t.told ++ [S3.clock] } by
              unfold midF
              rw [HTE.out, if_pos HHP.out, if_neg k2, if_neg k3, if_pos k4, HCL3.out, ← HS3.out, setT_setT])
            clear k2 k3 k4
            obtain ⟨cl, hcl⟩ : ∃ cl, S3.clock = cl := ⟨_, rfl⟩
            rw [hcl] at HM
            have z3 := (blkc HA.out.blk 3 rfl).1
            have z4 : we.cell? ⟨p, 4, none⟩ = some (.int .u64 cl) := by rw [← hcl]; exact (blkc L6.out.blk 4 rfl).1
            have hown := Aside0.mk (tell_own HA.out.told.1)
            clear hcl
            go_upto_region 19 with (fail)
            refine start_ (n := 14) (S := fun w' => w'.cell? ⟨b, 3, none⟩ = some (.slice Av t.told.length qv) ∧ w'.cell? ⟨p, 4, none⟩ = some (.int .u64 cl)) (ds := [13]) #[false, false, false, false, false, false, false, false, false, false, false, false, false, false] (by kernel_rfl) rfl rfl ⟨z3, z4⟩ (fun hHeld => ?_)
            refine pure_ (i := 0) (N := some 123) (v := ?_) (a' := ?_) #[true, false, false, false, false, false, false, false, false, false, false, false, false, false] rfl rfl (by kernel_rfl) (fun _ _ _ h => h) (Or.inl ⟨by rfl, ?_⟩) ?_ ?_
            rotate_left
            · intro w'
              go_simp
              with_reducible rfl
            rotate_left
            · simp only [Act.put, List.setIfInBounds_toArray, List.set_cons_zero, List.set_cons_succ, i64_w, i32_w]
              rfl
            refine pure_ (i := 1) (N := some 124) (v := ?_) (a' := ?_) #[true, true, false, false, false, false, false, false, false, false, false, false, false, false] rfl rfl (by kernel_rfl) (fun _ _ _ h => h) (Or.inl ⟨by rfl, ?_⟩) ?_ ?_
            rotate_left
            · intro w'
              go_simp
              with_reducible rfl
            rotate_left
            · simp only [Act.put, List.setIfInBounds_toArray, List.set_cons_zero, List.set_cons_succ, i64_w, i32_w]
              rfl
            refine pure_ (i := 2) (N := some 125) (v := ?_) (a' := ?_) #[true, true, true, false, false, false, false, false, false, false, false, false, false, false] rfl rfl (by kernel_rfl) (fun _ _ _ h => h) (Or.inl ⟨by rfl, ?_⟩) ?_ ?_
            rotate_left
            · intro w'
              go_simp
              with_reducible rfl
            rotate_left
            · simp only [Act.put, List.setIfInBounds_toArray, List.set_cons_zero, List.set_cons_succ, i64_w, i32_w]
              rfl
            refine pure_ (i := 3) (N := some 126) (v := ?_) (a' := ?_) #[true, true, true, true, false, false, false, false, false, false, false, false, false, false] rfl rfl (by kernel_rfl) (fun _ _ _ h => h) (Or.inl ⟨by rfl, ?_⟩) ?_ ?_
            rotate_left
            · intro w'
              go_simp
              with_reducible rfl
            rotate_left
            · simp only [Act.put, List.setIfInBounds_toArray, List.set_cons_zero, List.set_cons_succ, i64_w, i32_w]
              rfl
            refine pure_ (i := 5) (N := some 128) (v := ?_) (a' := ?_) #[true, true, true, true, false, true, false, false, false, false, false, false, false, false] rfl rfl (by kernel_rfl) (fun _ _ _ h => h) (Or.inl ⟨by rfl, ?_⟩) ?_ ?_
            rotate_left
            · intro w'
              go_simp
              with_reducible rfl
            rotate_left
            · simp only [Act.put, List.setIfInBounds_toArray, List.set_cons_zero, List.set_cons_succ, i64_w, i32_w]
              rfl
            refine pure_ (i := 6) (N := some 129) (v := ?_) (a' := ?_) #[true, true, true, true, false, true, true, false, false, false, false, false, false, false] rfl rfl (by kernel_rfl) (fun _ _ _ h => h) (Or.inl ⟨by rfl, ?_⟩) ?_ ?_
            rotate_left
            · intro w'
              go_simp
              with_reducible rfl
            rotate_left
            · simp only [Act.put, List.setIfInBounds_toArray, List.set_cons_zero, List.set_cons_succ, i64_w, i32_w]
              rfl
            refine pure_ (i := 7) (N := some 130) (v := ?_) (a' := ?_) #[true, true, true, true, false, true, true, true, false, false, false, false, false, false] rfl rfl (by kernel_rfl) (fun _ _ _ h => h) (Or.inl ⟨by rfl, ?_⟩) ?_ ?_
            rotate_left
            · intro w'
              go_simp
              with_reducible rfl
            rotate_left
            · simp only [Act.put, List.setIfInBounds_toArray, List.set_cons_zero, List.set_cons_succ, i64_w, i32_w]
              rfl
            refine take_ (i := 4) (N := some 127) (v := ?_) (a' := ?_) #[true, true, true, true, true, true, true, true, false, false, false, false, false, false] rfl rfl (by kernel_rfl) (fun _ _ _ h => h) (Or.inl ⟨by rfl, ?_⟩) hHeld ?_ ?_
            rotate_left
            · rintro w' ⟨s0, s1⟩
              go_simp
              with_reducible rfl
            rotate_left
            · simp only [Act.put, List.setIfInBounds_toArray, List.set_cons_zero, List.set_cons_succ, i64_w, i32_w]
              rfl
            refine take_ (i := 8) (N := some 131) (v := ?_) (a' := ?_) #[true, true, true, true, true, true, true, true, true, false, false, false, false, false] rfl rfl (by kernel_rfl) (fun _ _ _ h => h) (Or.inl ⟨by rfl, ?_⟩) hHeld ?_ ?_
            rotate_left
            · rintro w' ⟨s0, s1⟩
              go_simp
              with_reducible rfl
            rotate_left
            · simp only [Act.put, List.setIfInBounds_toArray, List.set_cons_zero, List.set_cons_succ, i64_w, i32_w]
              rfl
            refine one_ (i := 9) (N := some 132) #[true, true, true, true, true, true, true, true, true, true, false, false, false, false] rfl rfl (by kernel_rfl) (by decide) (fun K hK => ?_)
            refine value_ (w1 := ?_) (v := ?_) (by rfl) rfl ?_ ?_
            rotate_left 2
            · go_simp
              constructor
              · rfl
              · rfl
            refine hK.out _ _ ⟨(by first | exact pw_cell_below (below_drew (below_alloc (Below.refl _ _) _)) z3 | exact pw_cell_below (below_alloc (Below.refl _ _) _) z3), (by first | exact pw_cell_below (below_drew (below_alloc (Below.refl _ _) _)) z4 | exact pw_cell_below (below_alloc (Below.refl _ _) _) z4)⟩ (fun hHeld => ?_)
            clear hK K
            refine norm_ (a' := ?_) ?_ ?_
            rotate_left
            · show Act.put _ (some 132) _ = _
              simp only [Act.put, List.setIfInBounds_toArray, List.set_cons_zero, List.set_cons_succ, i64_w, i32_w]
              rfl
            refine one_ (i := 10) (N := some 133) #[true, true, true, true, true, true, true, true, true, true, true, false, false, false] rfl rfl (by kernel_rfl) (by decide) (fun K hK => ?_)
            refine step_append_lies _ (by rfl) (.tmp 127) (.tmp 132) 26 (by rfl) 0 48 i48 _ 1 8 Try.underlying26 HI.out HZ0.out HZ1.out HZ2.out rfl (by omega) (.slice Av t.told.length qv) t.told.length (encs (Value.int .u64) t.told) (by rfl) (by first | exact (hown.out.alloc _).drew | exact World.ownsRow.alloc (w := we) hown.out _) ⟨we.heap.size, 0, none⟩ 1 1 [.int .u64 cl] (by rfl) (by rfl) (World.news_of_block (cs := #[.int .u64 cl]) (t := 48) (fr := (0, 0)) (heap_alloc_new we _)) (by simp [Value.oneCell']) (by omega) HLN.out HBN.out (Nat.zero_le _) (we.heap.size + 1) (by simp) ?_
            intro gg cap wg hown2 hgrow hat hlt2
            obtain ⟨BK2, g', hX, hO, hAC⟩ := rtell_end HA.out (tell_R hown2) (by first | exact tell_grown (W := we) hgrow | exact tell_grown' (W := we) hgrow) (hat.elim (fun h => .inl h.symm) (fun h => .inr ⟨gg, rfl, by omega⟩))
            obtain ⟨z3a, z3f⟩ := blkc BK2 3 rfl
            have z4a : wg.cell? ⟨p, 4, none⟩ = some (.int .u64 cl) := (blk_cell (blk_grown (by first | exact blk_drew (blk_alloc L6.out.blk _) | exact blk_alloc L6.out.blk _) hgrow (Kd.R_ne HA.out.told.1 L6.out.blk (by decide))) 4).trans ((blk_cell L6.out.blk 4).symm.trans z4)
            refine hK.out _ _ ⟨z3a, z4a⟩ (fun hHeld => ?_)
            clear hK K
            refine norm_ (a' := ?_) ?_ ?_
            rotate_left
            · show Act.put _ (some 133) _ = _
              simp only [Act.put, List.setIfInBounds_toArray, List.set_cons_zero, List.set_cons_succ, i64_w, i32_w]
              rfl
            refine pure_ (i := 11) (N := some 134) (v := ?_) (a' := ?_) #[true, true, true, true, true, true, true, true, true, true, true, true, false, false] rfl rfl (by kernel_rfl) (fun _ _ _ h => h) (Or.inl ⟨by rfl, ?_⟩) ?_ ?_
            rotate_left
            · intro w'
              go_simp
              with_reducible rfl
            rotate_left
            · simp only [Act.put, List.setIfInBounds_toArray, List.set_cons_zero, List.set_cons_succ, i64_w, i32_w]
              rfl
            refine pure_ (i := 12) (N := some 135) (v := ?_) (a' := ?_) #[true, true, true, true, true, true, true, true, true, true, true, true, true, false] rfl rfl (by kernel_rfl) (fun _ _ _ h => h) (Or.inl ⟨by rfl, ?_⟩) ?_ ?_
            rotate_left
            · intro w'
              go_simp
              with_reducible rfl
            rotate_left
            · simp only [Act.put, List.setIfInBounds_toArray, List.set_cons_zero, List.set_cons_succ, i64_w, i32_w]
              rfl
            refine last_ (i := 13) (N := none) #[true, true, true, true, true, true, true, true, true, true, true, true, true, true] rfl rfl (by kernel_rfl) (by decide) (fun K hK => ?_)
            refine skip_ (w1 := ?_) (by rfl) rfl ?_ ?_
            rotate_left
            · go_simp
              rfl
            refine hK.out _ _ ?_
            clear hK K
            refine done_ (by kernel_rfl) ?_
            go_wp2
            go_meet
            case rel => exact ⟨g', ⟨by rw [HM.out]; exact L6.out.setTask hn3 _ hX hO (by rw [HBB.out]; exact hAC)⟩, ⟨fun j hj => hX j (Nat.lt_of_lt_of_le hj HSZ.out)⟩, ⟨HO6.out.trans (hO.mono TRN_TR) (Ext.refl _ _)⟩⟩
          by_cases k5 : (actF t).1 = 5
          · have e2 : ((actF t).1 == 2) = false := by simp [k5]
            have e3 : ((actF t).1 == 3) = false := by simp [k5]
            have e4 : ((actF t).1 == 4) = false := by simp [k5]
            have e5 : ((actF t).1 == 5) = true := by simp [k5]
            have HM := Aside0.mk (show midF S2 n = setT { S3 with drawn := S3.drawn + 1 } n { posT t with told := t.told ++ [drawV S3] } by
              unfold midF
              rw [HTE.out, if_pos HHP.out, if_neg k2, if_neg k3, if_neg k4, if_pos k5, ← HS3.out]
              show ({ setT S2 n _ with drawn := _ } : LS) = setT { setT S2 n (posT t) with drawn := _ } n _
              unfold setT
              simp
              rfl)
            clear k2 k3 k4 k5
            have z3 := (blkc HA.out.blk 3 rfl).1
            go_upto_region 21 with (fail)
            refine start_ (n := 12) (S := fun w' => w'.cell? ⟨b, 3, none⟩ = some (.slice Av t.told.length qv)) (ds := [11]) #[false, false, false, false, false, false, false, false, false, false, false, false] (by kernel_rfl) rfl rfl (z3) (fun hHeld => ?_)
            refine pure_ (i := 0) (N := some 138) (v := ?_) (a' := ?_) #[true, false, false, false, false, false, false, false, false, false, false, false] rfl rfl (by kernel_rfl) (fun _ _ _ h => h) (Or.inl ⟨by rfl, ?_⟩) ?_ ?_
            rotate_left
            · intro w'
              go_simp
              with_reducible rfl
            rotate_left
            · simp only [Act.put, List.setIfInBounds_toArray, List.set_cons_zero, List.set_cons_succ, i64_w, i32_w]
              rfl
            refine pure_ (i := 1) (N := some 139) (v := ?_) (a' := ?_) #[true, true, false, false, false, false, false, false, false, false, false, false] rfl rfl (by kernel_rfl) (fun _ _ _ h => h) (Or.inl ⟨by rfl, ?_⟩) ?_ ?_
            rotate_left
            · intro w'
              go_simp
              with_reducible rfl
            rotate_left
            · simp only [Act.put, List.setIfInBounds_toArray, List.set_cons_zero, List.set_cons_succ, i64_w, i32_w]
              rfl
            refine pure_ (i := 2) (N := some 140) (v := ?_) (a' := ?_) #[true, true, true, false, false, false, false, false, false, false, false, false] rfl rfl (by kernel_rfl) (fun _ _ _ h => h) (Or.inl ⟨by rfl, ?_⟩) ?_ ?_
            rotate_left
            · intro w'
              go_simp
              with_reducible rfl
            rotate_left
            · simp only [Act.put, List.setIfInBounds_toArray, List.set_cons_zero, List.set_cons_succ, i64_w, i32_w]
              rfl
            refine pure_ (i := 3) (N := some 141) (v := ?_) (a' := ?_) #[true, true, true, true, false, false, false, false, false, false, false, false] rfl rfl (by kernel_rfl) (fun _ _ _ h => h) (Or.inl ⟨by rfl, ?_⟩) ?_ ?_
            rotate_left
            · intro w'
              go_simp
              with_reducible rfl
            rotate_left
            · simp only [Act.put, List.setIfInBounds_toArray, List.set_cons_zero, List.set_cons_succ, i64_w, i32_w]
              rfl
            refine pure_ (i := 5) (N := some 143) (v := ?_) (a' := ?_) #[true, true, true, true, false, true, false, false, false, false, false, false] rfl rfl (by kernel_rfl) (fun _ _ _ h => h) (Or.inl ⟨by rfl, ?_⟩) ?_ ?_
            rotate_left
            · intro w'
              go_simp
              with_reducible rfl
            rotate_left
            · simp only [Act.put, List.setIfInBounds_toArray, List.set_cons_zero, List.set_cons_succ, i64_w, i32_w]
              rfl
            refine take_ (i := 4) (N := some 142) (v := ?_) (a' := ?_) #[true, true, true, true, true, true, false, false, false, false, false, false] rfl rfl (by kernel_rfl) (fun _ _ _ h => h) (Or.inl ⟨by rfl, ?_⟩) hHeld ?_ ?_
            rotate_left
            · intro w' s0
              go_simp
              with_reducible rfl
            rotate_left
            · simp only [Act.put, List.setIfInBounds_toArray, List.set_cons_zero, List.set_cons_succ, i64_w, i32_w]
              rfl
            refine one_ (i := 6) (N := some 144) #[true, true, true, true, true, true, true, false, false, false, false, false] rfl rfl (by kernel_rfl) (by decide) (fun K hK => ?_)
            refine goes_ Try.func50 (by kernel_rfl) rfl #[.pointer (some ⟨p, 0, none⟩)] (by rfl) rfl rfl (by simp only [List.map_toArray, List.map_cons, List.map_nil]; rfl) ?_
            with_reducible refine (rdraw_calls L6.out.drew HDR3.out HDL3.out).mono ?_
            rintro ev w7 ⟨rfl, hL7, hO7⟩
            have L7 := Aside0.mk hL7
            have O7 := Aside0.mk (show Only (fun t => t = .rloop k) g we w7 from ((Only.refl _ _ _).drew).trans hO7 (Ext.refl _ _))
            have HA7 := Aside0.mk (show RActAt k n w7 g b (posT t) (some ad) c (.slice Av t.told.length qv) from ⟨O7.out.blk HA.out.blk (by rw [HA.out.tag]; simp), HA.out.cap, HA.out.acts.move O7.out (Ext.refl _ _) (by simp), HA.out.told.move rfl O7.out (Ext.refl _ _) (by simp), HA.out.tag⟩)
            have hown7 := Aside0.mk (tell_own HA7.out.told.1)
            have z5 := (blkc HA7.out.blk 3 rfl).1
            clear hL7 hO7
            refine ⟨_, rfl, ?_⟩
            refine hK.out _ _ (z5) (fun hHeld => ?_)
            clear hK K
            refine norm_ (a' := ?_) ?_ ?_
            rotate_left
            · show Act.put _ (some 144) _ = _
              simp only [Act.put, List.setIfInBounds_toArray, List.set_cons_zero, List.set_cons_succ, i64_w, i32_w]
              rfl
            refine one_ (i := 7) (N := some 145) #[true, true, true, true, true, true, true, true, false, false, false, false] rfl rfl (by kernel_rfl) (by decide) (fun K hK => ?_)
            refine value_ (w1 := ?_) (v := ?_) (by rfl) rfl ?_ ?_
            rotate_left 2
            · go_simp
              constructor
              · rfl
              · rfl
            refine hK.out _ _ ((by first | exact pw_cell_below (below_drew (below_alloc (Below.refl _ _) _)) z5 | exact pw_cell_below (below_alloc (Below.refl _ _) _) z5)) (fun hHeld => ?_)
            clear hK K
            refine norm_ (a' := ?_) ?_ ?_
            rotate_left
            · show Act.put _ (some 145) _ = _
              simp only [Act.put, List.setIfInBounds_toArray, List.set_cons_zero, List.set_cons_succ, i64_w, i32_w]
              rfl
            refine one_ (i := 8) (N := some 146) #[true, true, true, true, true, true, true, true, true, false, false, false] rfl rfl (by kernel_rfl) (by decide) (fun K hK => ?_)
            refine step_append_lies _ (by rfl) (.tmp 142) (.tmp 145) 26 (by rfl) 0 48 i48 _ 1 8 Try.underlying26 HI.out HZ0.out HZ1.out HZ2.out rfl (by omega) (.slice Av t.told.length qv) t.told.length (encs (Value.int .u64) t.told) (by rfl) (by first | exact (hown7.out.alloc _).drew | exact World.ownsRow.alloc (w := w7) hown7.out _) ⟨w7.heap.size, 0, none⟩ 1 1 [.int .u64 (drawV S3)] (by rfl) (by rfl) (World.news_of_block (cs := #[.int .u64 (drawV S3)]) (t := 48) (fr := (0, 0)) (heap_alloc_new w7 _)) (by simp [Value.oneCell']) (by omega) HLN.out HBN.out (Nat.zero_le _) (w7.heap.size + 1) (by simp) ?_
            intro gg cap wg hown2 hgrow hat hlt2
            obtain ⟨BK2, g', hX, hO, hAC⟩ := rtell_end HA7.out (tell_R hown2) (by first | exact tell_grown (W := w7) hgrow | exact tell_grown' (W := w7) hgrow) (hat.elim (fun h => .inl h.symm) (fun h => .inr ⟨gg, rfl, by omega⟩))
            obtain ⟨z3a, z3f⟩ := blkc BK2 3 rfl
            refine hK.out _ _ (z3a) (fun hHeld => ?_)
            clear hK K
            refine norm_ (a' := ?_) ?_ ?_
            rotate_left
            · show Act.put _ (some 146) _ = _
              simp only [Act.put, List.setIfInBounds_toArray, List.set_cons_zero, List.set_cons_succ, i64_w, i32_w]
              rfl
            refine pure_ (i := 9) (N := some 147) (v := ?_) (a' := ?_) #[true, true, true, true, true, true, true, true, true, true, false, false] rfl rfl (by kernel_rfl) (fun _ _ _ h => h) (Or.inl ⟨by rfl, ?_⟩) ?_ ?_
            rotate_left
            · intro w'
              go_simp
              with_reducible rfl
            rotate_left
            · simp only [Act.put, List.setIfInBounds_toArray, List.set_cons_zero, List.set_cons_succ, i64_w, i32_w]
              rfl
            refine pure_ (i := 10) (N := some 148) (v := ?_) (a' := ?_) #[true, true, true, true, true, true, true, true, true, true, true, false] rfl rfl (by kernel_rfl) (fun _ _ _ h => h) (Or.inl ⟨by rfl, ?_⟩) ?_ ?_
            rotate_left
            · intro w'
              go_simp
              with_reducible rfl
            rotate_left
            · simp only [Act.put, List.setIfInBounds_toArray, List.set_cons_zero, List.set_cons_succ, i64_w, i32_w]
              rfl
            refine last_ (i := 11) (N := none) #[true, true, true, true, true, true, true, true, true, true, true, true] rfl rfl (by kernel_rfl) (by decide) (fun K hK => ?_)
            refine skip_ (w1 := ?_) (by rfl) rfl ?_ ?_
            rotate_left
            · go_simp
              rfl
            refine hK.out _ _ ?_
            clear hK K
            refine done_ (by kernel_rfl) ?_
            go_wp2
            go_meet
            case rel => exact ⟨g', ⟨by rw [HM.out]; exact L7.out.setTask hn3 _ hX hO (by rw [HBB.out]; exact hAC)⟩, ⟨fun j hj => hX j (Nat.lt_of_lt_of_le hj (Nat.le_trans HSZ.out O7.out.size))⟩, ⟨(HO6.out.trans (O7.out.mono (T' := TR k) (fun t ht => by subst ht; rfl)) (Ext.refl _ _)).trans (hO.mono TRN_TR) (Ext.refl _ _)⟩⟩
          · have e2 : ((actF t).1 == 2) = false := by simp [k2]
            have e3 : ((actF t).1 == 3) = false := by simp [k3]
            have e4 : ((actF t).1 == 4) = false := by simp [k4]
            have e5 : ((actF t).1 == 5) = false := by simp [k5]
            have HM := Aside0.mk (show midF S2 n = S3 by
              unfold midF
              rw [HTE.out, if_pos HHP.out, if_neg k2, if_neg k3, if_neg k4, if_neg k5, HS3.out])
            clear k2 k3 k4 k5
            go_wp2
            go_meet
            case rel => exact ⟨g, ⟨by rw [HM.out]; exact L6.out⟩, ⟨Ext.refl _ _⟩, HO6⟩
      · have dt : decide (t.pos < t.acts.length) = false := decide_eq_false hp
        have HM := Aside0.mk (show midF S2 n = S2 by unfold midF; rw [HTE.out, if_neg hp])
        go_wp2
        go_meet
        case rel => exact ⟨g, ⟨by rw [HM.out]; exact L5.out⟩, ⟨Ext.refl _ _⟩, HO5⟩
    case rest =>
      obtain ⟨g4, L8, HX8, HO8⟩ := hcut
      obtain ⟨wf, rfl⟩ : ∃ wo : World, wo = wc := ⟨_, rfl⟩
      have HMM := Aside0.mk (fin_mid S2 n hn2 (by rw [HTE.out]; exact HW2.out))
      have hlm : n < (midF S2 n).tasks.length := by
        have : (midF S2 n).tasks.length = S2.tasks.length := by
          have e1 : (finF (midF S2 n) n).tasks.length = (moveF S2 n).tasks.length := by rw [HMM.out]
          have e2 : (finF (midF S2 n) n).tasks.length = (midF S2 n).tasks.length := by unfold finF; split; exact List.length_set; rfl
          rw [← e2, e1, (fixed_move S2 n).2.2.2.1]
        rw [this]; exact hn2
      obtain ⟨S4, hS4⟩ : ∃ S4, midF S2 n = S4 := ⟨_, rfl⟩
      rw [hS4] at L8 HMM hlm
      have HFIN := Aside0.mk (show stepF S pick = finF S4 n by
        unfold stepF
        have e := move_count S1 n (S1.count + 1)
        rw [HS2.out] at e
        rw [if_pos HS.out, HN.out, HS1.out, HMM.out, e, FC.out])
      obtain ⟨A, c, v, ha⟩ := L8.out.each n hlm
      rw [HBB.out] at ha
      obtain ⟨t', ht'⟩ : ∃ t', taskF S4 n = t' := ⟨_, rfl⟩
      rw [ht'] at ha
      have HT' := Aside0.mk ht'
      have HAC := Aside0.mk ha
      obtain ⟨z0, _⟩ := blkc ha.blk 0 rfl
      obtain ⟨z1, _⟩ := blkc ha.blk 1 rfl
      have HXW := Aside0.mk (show Ext w.heap.size g g4 from fun j hj => HX8.out j (Nat.lt_of_lt_of_le hj HO5.out.size))
      clear ha hS4 ht'
      go_upto_region 22 with (fail)
      go_quiet (fail)
      clear z0 z1
      have L9 := Aside0.mk (L8.out.drewN nq)
      have HO9 := Aside0.mk (HO8.out.drewN nq)
      have HA9 : RActAt k n (wf.drewN nq) g4 b t' A c v := ⟨blk_drewN HAC.out.blk nq, HAC.out.cap, HAC.out.acts.move ((Only.refl (fun _ => False) g4 wf).drewN nq) (Ext.refl _ _) (fun h => h), HAC.out.told.move rfl ((Only.refl (fun _ => False) g4 wf).drewN nq) (Ext.refl _ _) (fun h => h), HAC.out.tag⟩
      obtain ⟨y2, y2f⟩ := blkc HA9.blk 2 rfl
      clear L8 HO8 HAC HA9
      generalize wf.drewN nq = wh at L9 HO9 y2 y2f ⊢
      by_cases hd9 : t'.acts.length ≤ t'.pos
      · have dd : decide (t'.acts.length ≤ t'.pos) = true := decide_eq_true hd9
        have HE := Aside0.mk (show finF S4 n = setWait S4 n (-1) by unfold finF; rw [HT'.out, if_pos hd9])
        obtain ⟨l10, o10⟩ := L9.out.setW hlm (-1)
        rw [HBB.out] at l10 o10
        have L10 := Aside0.mk l10
        have O10 := Aside0.mk (HO9.out.trans (o10.mono TRA_TR) HXW.out)
        clear l10 o10
        go_wp2
        go_ret2
        exact ⟨rfl, g4, HXW.out, O10.out, by rw [HFIN.out, HE.out]; exact ⟨_, _, _, _, _, _, _, _, _, L10.out⟩⟩
      · have dd : decide (t'.acts.length ≤ t'.pos) = false := decide_eq_false hd9
        have HE := Aside0.mk (show finF S4 n = S4 by unfold finF; rw [HT'.out, if_neg hd9])
        go_wp2
        go_ret2
        exact ⟨rfl, g4, HXW.out, HO9.out, by rw [HFIN.out, HE.out]; exact ⟨_, _, _, _, _, _, _, _, _, L9.out⟩⟩
end
end Go.Proofs.Ytompgphlinjglaa.P
