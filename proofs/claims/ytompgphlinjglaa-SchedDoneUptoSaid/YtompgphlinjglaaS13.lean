/- Contracts: the program's Loop.Step. -/
import Derived.Test.YtompgphlinjglaaS12
namespace Go.Proofs.Ytompgphlinjglaa.P
open Go.RowKit Go.Proofs.YtompgphlinjglaaW.PrintWords Go.Proofs.YtompgphlinjglaaW.PrintLast Go.Proofs.YtompgphlinjglaaW.PrintMore
attribute [local go_sem] Oper.semAt_some
set_option linter.unusedVariables false
set_option linter.unusedSimpArgs false

section
variable {k : Nat} {w w1 : World} {g g1 : Nat → Tag} {p : Nat} {S : LS} {A0 : Option Addr} {c0 : Nat} {A1 : Option Addr} {c1 : Nat} {A2 : Option Addr} {c2 : Nat} {At : Option Addr} {ct : Nat} {Aw : Option Addr} {cw : Nat} {e : Nat} {bs : List Nat}
theorem steps_yes {pick : Int} (h : stepsF S pick = true) : 0 ≤ pick ∧ 0 < (readyF S).length := by
  unfold stepsF at h
  simp only [Bool.and_eq_true, decide_eq_true_eq, Bool.not_eq_true', List.isEmpty_eq_false_iff] at h
  exact ⟨h.1, List.length_pos_iff.mpr h.2⟩
theorem goes_at {pick : Int} (h : stepsF S pick = true) : ∃ q : Nat, pick % ((readyF S).length : Int) = q ∧ q < (readyF S).length ∧ rdOf 0 (readyF S) (q : Int) = (goesF S pick : Int) ∧ goesF S pick < S.tasks.length ∧ (taskF S (goesF S pick)).wait = 0 := by
  obtain ⟨h0, h1⟩ := steps_yes h
  have m0 := Int.emod_nonneg pick (show ((readyF S).length : Int) ≠ 0 by omega)
  have m1 := Int.emod_lt_of_pos pick (show (0 : Int) < (readyF S).length by omega)
  obtain ⟨q, hq⟩ := Int.eq_ofNat_of_zero_le m0
  have hlt : q < (readyF S).length := by omega
  have hg : goesF S pick = ((readyF S).getD q 0).toNat := by unfold goesF; rw [hq]; rfl
  have hm : (readyF S).getD q 0 ∈ readyTo (waitsF S) (waitsF S).length := by
    have : (readyF S).getD q 0 = (readyF S)[q] := by simp [List.getD_eq_getElem?_getD, hlt]
    rw [this]; exact List.getElem_mem hlt
  obtain ⟨r0, r1, r2⟩ := readyTo_mem _ _ _ hm
  rw [waitsF_len] at r1
  have hlt2 : goesF S pick < S.tasks.length := by omega
  refine ⟨q, hq, hlt, ?_, hlt2, ?_⟩
  · simp only [rdOf, Int.toNat_natCast]; omega
  · rw [← hg, waitsF_get, if_pos hlt2] at r2; exact r2
theorem LoopAt.tick (h : LoopAt k w g p S A0 c0 A1 c1 A2 c2 At ct Aw cw e bs) (x : Int) : LoopAt k (w.setCell ⟨e, 0, none⟩ (.int .u64 x)) g p { S with clock := x } A0 c0 A1 c1 A2 c2 At ct Aw cw e bs := by
  have ho := (Only.refl (fun t => t = Tag.env k) g w).setCell (p := ⟨e, 0, none⟩) (.inl h.etag) (.int .u64 x)
  have hx := Ext.refl w.heap.size g
  refine ⟨ho.blk h.blk (by rw [h.tag]; simp), blk_put h.env 0 _ rfl, h.l0, h.l1, h.l2, h.picks.move ho hx (by simp), h.ticks.move ho hx (by simp), h.draws.move ho hx (by simp), h.tasks.move rfl ho hx (by simp), h.waits.move rfl ho hx (by simp), fun i hi => (h.each i hi).move ho hx (by simp) (by simp) (by simp), h.tag, h.etag⟩
theorem LoopAt.drewN (h : LoopAt k w g p S A0 c0 A1 c1 A2 c2 At ct Aw cw e bs) (n : Nat) : LoopAt k (w.drewN n) g p S A0 c0 A1 c1 A2 c2 At ct Aw cw e bs := h.move ((Only.refl (fun _ => False) g w).drewN n) (Ext.refl _ _) (fun h => h) (fun _ _ h => h)
theorem LoopAt.drew (h : LoopAt k w g p S A0 c0 A1 c1 A2 c2 At ct Aw cw e bs) : LoopAt k w.drew g p S A0 c0 A1 c1 A2 c2 At ct Aw cw e bs := h.move ((Only.refl (fun _ => False) g w).drew) (Ext.refl _ _) (fun h => h) (fun _ _ h => h)
theorem LoopAt.alloc (h : LoopAt k w g p S A0 c0 A1 c1 A2 c2 At ct Aw cw e bs) (o : Obj) : LoopAt k (w.alloc o) g p S A0 c0 A1 c1 A2 c2 At ct Aw cw e bs := h.move ((Only.refl (fun _ => False) g w).alloc o) (Ext.refl _ _) (fun h => h) (fun _ _ h => h)
theorem R_only {T : Tag → Prop} {α : Type} {d : Kd α} (hE : d.E = []) {e base : Nat} {v : Value} {xs : List α} (h : d.R e w base (fun _ => True) v xs) (ho : Only T g w w1) (ht : ∀ j, v.ownBlock = some j → ¬ T (g j)) : d.R e w1 base (fun _ => True) v xs :=
  Kd.R_mono (Kd.R_step (Kd.R_tight hE h) (fun j hj hlt => ho.block j hlt (ht j hj.symm))) (fun _ _ => trivial)
def wakeL (l : List Int) (S : LS) : LS := l.foldl (fun s c => wakeF c s) S
theorem wakeL_snoc (l : List Int) (i : Nat) (hi : i < l.length) (S : LS) : wakeL (l.take (i + 1)) S = wakeF (l.getD i 0) (wakeL (l.take i) S) := by
  unfold wakeL
  rw [List.take_succ_eq_append_getElem hi, List.foldl_append]
  simp [List.getD_eq_getElem?_getD, hi]
theorem wakeF_len (c : Int) (S : LS) : (wakeF c S).tasks.length = S.tasks.length := by unfold wakeF; split <;> simp
theorem wakeL_len (l : List Int) : ∀ S : LS, (wakeL l S).tasks.length = S.tasks.length := by
  induction l with
  | nil => intro S; rfl
  | cons c l ih => intro S; exact (ih (wakeF c S)).trans (wakeF_len c S)
theorem wakesF_len (t : TS) : (wakesF t).length ≤ 1 := by unfold wakesF; split <;> simp
theorem waits_set (S : LS) (n : Nat) (x : Int) (hn : n < S.tasks.length) : (S.tasks.set n { taskF S n with wait := x }).map (·.wait) = (waitsF S).set n x := by
  unfold waitsF; rw [List.map_set]
theorem LoopAt.setW {gw : Nat} (h : LoopAt k w g p S A0 c0 A1 c1 A2 c2 At ct (some ⟨gw, 0, none⟩) cw e bs) {n : Nat} (hn : n < S.tasks.length) (x : Int) :
    LoopAt k (w.setCell ⟨gw, n, none⟩ (.int .i64 x)) g p (setWait S n x) A0 c0 A1 c1 A2 c2 At ct (some ⟨gw, 0, none⟩) cw e bs := by
  have ho := (Only.refl (fun t => t = Tag.waits k) g w).setCell (p := ⟨gw, n, none⟩) (.inl (h.waits.2 gw rfl)) (.int .i64 x)
  have hr : Row (Kd.int .i64) 3 (w.setCell ⟨gw, n, none⟩ (.int .i64 x)) g (.waits k) (.slice (some ⟨gw, 0, none⟩) S.tasks.length cw) ((waitsF S).set n x) := by
    have := Kd.R_putn h.waits.1 (n : Int) x
    rw [Int.toNat_natCast] at this
    exact ⟨this, h.waits.2⟩
  refine h.turn ho (List.length_set) (fun i hi => ?_) (by rw [waits_set S n x hn]; exact hr)
  have e1 : (S.tasks.set n { taskF S n with wait := x }).getD i default = if i = n then { taskF S n with wait := x } else taskF S i := taskF_set S n i _ hn
  rw [e1]
  by_cases e_ : i = n
  · subst e_; rw [if_pos rfl]; exact ⟨rfl, rfl, rfl⟩
  · rw [if_neg e_]; exact ⟨rfl, rfl, rfl⟩
theorem LoopAt.steps (h : LoopAt k w g p S A0 c0 A1 c1 A2 c2 At ct Aw cw e bs) (x : Nat) : LoopAt k (w.setCell ⟨p, 6, none⟩ (.int .i64 x)) g p { S with count := x } A0 c0 A1 c1 A2 c2 At ct Aw cw e bs := by
  have ho := (Only.refl (fun t => t = Tag.loop k) g w).setCell (p := ⟨p, 6, none⟩) (.inl h.tag) (.int .i64 x)
  have hx := Ext.refl w.heap.size g
  refine ⟨blk_put h.blk 6 _ rfl, ho.blk h.env (by rw [h.etag]; simp), h.l0, h.l1, h.l2, h.picks.move ho hx (by simp), h.ticks.move ho hx (by simp), h.draws.move ho hx (by simp), h.tasks.move rfl ho hx (by simp), h.waits.move rfl ho hx (by simp), fun i hi => (h.each i hi).move ho hx (by simp) (by simp) (by simp), h.tag, h.etag⟩
theorem wakeF_count (c : Int) (S : LS) : (wakeF c S).count = S.count := by unfold wakeF; split <;> rfl
theorem wakeL_count (l : List Int) : ∀ S : LS, (wakeL l S).count = S.count := by
  induction l with
  | nil => intro S; rfl
  | cons c l ih => intro S; exact (ih (wakeF c S)).trans (wakeF_count c S)
theorem endF_count (S : LS) (n : Nat) (d : Bool) (x : Int) : (endF S n d x).count = S.count := by unfold endF; split; rfl; split <;> rfl
theorem tickF_count (S : LS) : (tickF S).count = S.count := by unfold tickF; split <;> rfl
theorem ext_new {gc g4 : Nat → Tag} {n m : Nat} {x : Tag} (hX : Ext m gc g4 ∧ ∀ j, m ≤ j → g4 j = .other ∨ g4 j = x) (hc : ∀ j, n ≤ j → gc j = .other) (h : n ≤ m) : Ext n gc g4 ∧ ∀ j, n ≤ j → g4 j = .other ∨ g4 j = x :=
  ⟨fun j hj => hX.1 j (by omega), fun j hj => by
    by_cases e : j < m
    · exact .inl ((hX.1 j e).trans (hc j hj))
    · exact hX.2 j (by omega)⟩
theorem LoopAt.cells3 {gt : Nat} (h : LoopAt k w g p S A0 c0 A1 c1 A2 c2 (some ⟨gt, 0, none⟩) ct Aw cw e bs) {m n : Nat} (hm : S.tasks.length = m) (hn : n < m) :
    w.cell? ⟨p, 3, none⟩ = some (.slice (some ⟨gt, 0, none⟩) m ct) ∧ w.cell? ⟨gt, n, none⟩ = some (.iface 59 (.pointer (some ⟨bs.getD n 0, 0, none⟩))) ∧ w.cell? ⟨p, 5, none⟩ = some (.pointer (some ⟨e, 0, none⟩)) := by
  subst hm
  refine ⟨(blk_cell h.blk 3).trans rfl, ?_, (blk_cell h.blk 5).trans rfl⟩
  have := (Kd.R_celln (enc := fun b : Nat => .iface 59 (.pointer (some ⟨b, 0, none⟩))) (h1 := fun _ => rfl) 0 h.tasks.1 (n : Int) (Int.natCast_nonneg _) (by omega)).1
  rw [Int.toNat_natCast] at this
  rw [this]
  simp [rdOf]
theorem tickF_tasks (S : LS) : (tickF S).tasks = S.tasks := by unfold tickF; split <;> rfl
theorem good_tick {B : Nat} (h : Good B S) : Good B (tickF S) := by
  unfold tickF
  split
  · exact ⟨h.tasks, h.each, h.drawn, h.count, h.picks, h.ticks, h.draws, h.used⟩
  · exact h
set_option maxHeartbeats 8000000 in
set_option maxRecDepth 100000 in
theorem stepYes_calls (h : LoopAt k w g p S A0 c0 A1 c1 A2 c2 At ct Aw cw e bs) {B : Nat} (hG : Good B S) (hB : B ≤ 1152921504606846976) (pick : Int) (hs : stepsF S pick = true) :
    Calls Try.prog 11 #[.pointer (some ⟨p, 0, none⟩), .int .i64 pick] w fun ev w' => ev = .returned (.tuple #[.int .i64 (goesF S pick), .bool true]) ∧ ∃ g', Ext w.heap.size g g' ∧ Only (TP k) g w w' ∧ LoopIs k w' g' p (stepF S pick) bs := by
  have HRD := Aside0.mk (ready_calls ⟨_, _, _, _, _, _, _, _, _, _, _, h⟩ hG.tasks)
  obtain ⟨p0, m0⟩ := steps_yes hs
  obtain ⟨q, hq, hqm, hqr, hn, hnw⟩ := goes_at hs
  have HS := Aside0.mk hs
  have HGD := Aside0.mk hG
  have HL := Aside0.mk h
  have HQ := Aside0.mk hq
  have HQR := Aside0.mk hqr
  have HNW := Aside0.mk hnw
  obtain ⟨n, hnn⟩ : ∃ n, goesF S pick = n := ⟨_, rfl⟩
  rw [hnn] at hn HQR HNW ⊢
  have HN := Aside0.mk hnn
  obtain ⟨rs, hrs⟩ : ∃ rs, readyF S = rs := ⟨_, rfl⟩
  rw [hrs] at m0 hqm HRD HQ HQR
  have hd : decide (pick < 0) = false := decide_eq_false (by omega)
  have hd2 : (rs.length == 0) = false := beq_eq_false_iff_ne.mpr (by omega)
  have hd3 : ((rs.length : Int) == 0) = false := beq_eq_false_iff_ne.mpr (by omega)
  clear h hs hq hqr hnw hnn hrs
  have hcb : S.count ≤ 1152921504606846976 := Nat.le_trans hG.count hB
  have htl : S.ticks.length ≤ 65536 := hG.ticks
  clear hG
  go_enter Try.func11, Try.ntmps11
  go_upto_region 4 with (go_at_call 15; refine HRD.out.mono ?_; rintro ev w1 ⟨v1, rfl, hR, hb⟩; have HR := Aside0.mk hR; have HB1 := Aside0.mk hb; obtain ⟨P1, q1, rfl⟩ := Kd.R_slice hR; clear hR hb)
  have L1 := Aside0.mk (HL.out.move (Only.of_below HB1.out (fun _ => False) g) (Ext.refl _ _) (fun h => h) (fun _ _ h => h))
  have hm := (blkc L1.out.blk 1 rfl).1
  have hm2 := (blkc L1.out.blk 6 rfl).1
  go_quiet (fail)
  clear hm hm2
  have L2 := Aside0.mk (L1.out.drewN nq)
  have HR2 := Aside0.mk (Kd.R_drewN HR.out nq)
  have HB2 := Aside0.mk (pw_below_drewN HB1.out nq)
  clear L1 HR HB1
  generalize w1.drewN nq = w2 at L2 HR2 HB2 ⊢
  go_upto_if 30 with (fail)
  have HTL := Aside0.mk htl
  clear htl
  go_cut [] (fun wc => Aside0 (LoopAt k wc g p (tickF S) A0 c0 A1 c1 A2 c2 At ct Aw cw e bs) ∧ Aside0 ((Kd.int .i64).R 3 wc w.heap.size (fun _ => True) (.slice P1 rs.length q1) rs) ∧ Aside0 (Only (fun t => t = .env k) g w wc))
  case first =>
    by_cases hlt : S.count < S.ticks.length
    · have dt : decide (S.count < S.ticks.length) = true := decide_eq_true hlt
      obtain ⟨ad, ea, hx⟩ := Kd.at_int L2.out.ticks.now (S.count : Int) (Int.natCast_nonneg _) (by omega)
      subst ea
      rw [Int.toNat_natCast] at hx
      have hx' : w2.cell? (ad.add S.count) = some (.int .i64 (S.ticks.getD S.count 0)) := by rw [hx]; simp [rd]
      clear hx
      obtain ⟨x, hxe⟩ : ∃ x, S.ticks.getD S.count 0 = x := ⟨_, rfl⟩
      rw [hxe] at hx'
      have HXE := Aside0.mk hxe
      have hi0 : (S.count : Int) < (S.ticks.length : Int) := by omega
      have hle := blk_lt HL.out.env
      have hlt' := Aside0.mk hlt
      have ef := (blkc L2.out.env 0 rfl).2
      clear hxe hlt
      go_upto_region 5 with (fail)
      refine start_ (n := 23) (S := fun w' => w'.cell? ⟨p, 5, none⟩ = some (.pointer (some ⟨e, 0, none⟩)) ∧ w'.cell? ⟨e, 0, none⟩ = some (.int .u64 S.clock) ∧ w'.cell? ⟨p, 1, none⟩ = some (.slice (some ad) S.ticks.length c1) ∧ w'.cell? ⟨p, 6, none⟩ = some (.int .i64 S.count) ∧ w'.cell? (ad.add S.count) = some (.int .i64 x)) (ds := [22]) #[false, false, false, false, false, false, false, false, false, false, false, false, false, false, false, false, false, false, false, false, false, false, false] (by kernel_rfl) rfl rfl ⟨((blk_cell L2.out.blk 5).trans rfl), ((blk_cell L2.out.env 0).trans rfl), ((blk_cell L2.out.blk 1).trans rfl), ((blk_cell L2.out.blk 6).trans rfl), hx'⟩ (fun hHeld => ?_)
      refine pure_ (i := 0) (N := some 31) (v := ?_) (a' := ?_) #[true, false, false, false, false, false, false, false, false, false, false, false, false, false, false, false, false, false, false, false, false, false, false] rfl rfl (by kernel_rfl) (fun _ _ _ h => h) (Or.inl ⟨by rfl, ?_⟩) ?_ ?_
      rotate_left
      · intro w'
        go_simp
        with_reducible rfl
      rotate_left
      · simp only [Act.put, List.setIfInBounds_toArray, List.set_cons_zero, List.set_cons_succ, i64_w, i32_w]
        rfl
      refine pure_ (i := 1) (N := some 32) (v := ?_) (a' := ?_) #[true, true, false, false, false, false, false, false, false, false, false, false, false, false, false, false, false, false, false, false, false, false, false] rfl rfl (by kernel_rfl) (fun _ _ _ h => h) (Or.inl ⟨by rfl, ?_⟩) ?_ ?_
      rotate_left
      · intro w'
        go_simp
        with_reducible rfl
      rotate_left
      · simp only [Act.put, List.setIfInBounds_toArray, List.set_cons_zero, List.set_cons_succ, i64_w, i32_w]
        rfl
      refine pure_ (i := 2) (N := some 33) (v := ?_) (a' := ?_) #[true, true, true, false, false, false, false, false, false, false, false, false, false, false, false, false, false, false, false, false, false, false, false] rfl rfl (by kernel_rfl) (fun _ _ _ h => h) (Or.inl ⟨by rfl, ?_⟩) ?_ ?_
      rotate_left
      · intro w'
        go_simp
        with_reducible rfl
      rotate_left
      · simp only [Act.put, List.setIfInBounds_toArray, List.set_cons_zero, List.set_cons_succ, i64_w, i32_w]
        rfl
      refine pure_ (i := 7) (N := some 38) (v := ?_) (a' := ?_) #[true, true, true, false, false, false, false, true, false, false, false, false, false, false, false, false, false, false, false, false, false, false, false] rfl rfl (by kernel_rfl) (fun _ _ _ h => h) (Or.inl ⟨by rfl, ?_⟩) ?_ ?_
      rotate_left
      · intro w'
        go_simp
        with_reducible rfl
      rotate_left
      · simp only [Act.put, List.setIfInBounds_toArray, List.set_cons_zero, List.set_cons_succ, i64_w, i32_w]
        rfl
      refine pure_ (i := 8) (N := some 39) (v := ?_) (a' := ?_) #[true, true, true, false, false, false, false, true, true, false, false, false, false, false, false, false, false, false, false, false, false, false, false] rfl rfl (by kernel_rfl) (fun _ _ _ h => h) (Or.inl ⟨by rfl, ?_⟩) ?_ ?_
      rotate_left
      · intro w'
        go_simp
        with_reducible rfl
      rotate_left
      · simp only [Act.put, List.setIfInBounds_toArray, List.set_cons_zero, List.set_cons_succ, i64_w, i32_w]
        rfl
      refine pure_ (i := 9) (N := some 40) (v := ?_) (a' := ?_) #[true, true, true, false, false, false, false, true, true, true, false, false, false, false, false, false, false, false, false, false, false, false, false] rfl rfl (by kernel_rfl) (fun _ _ _ h => h) (Or.inl ⟨by rfl, ?_⟩) ?_ ?_
      rotate_left
      · intro w'
        go_simp
        with_reducible rfl
      rotate_left
      · simp only [Act.put, List.setIfInBounds_toArray, List.set_cons_zero, List.set_cons_succ, i64_w, i32_w]
        rfl
      refine pure_ (i := 10) (N := some 41) (v := ?_) (a' := ?_) #[true, true, true, false, false, false, false, true, true, true, true, false, false, false, false, false, false, false, false, false, false, false, false] rfl rfl (by kernel_rfl) (fun _ _ _ h => h) (Or.inl ⟨by rfl, ?_⟩) ?_ ?_
      rotate_left
      · intro w'
        go_simp
        with_reducible rfl
      rotate_left
      · simp only [Act.put, List.setIfInBounds_toArray, List.set_cons_zero, List.set_cons_succ, i64_w, i32_w]
        rfl
      refine pure_ (i := 12) (N := some 43) (v := ?_) (a' := ?_) #[true, true, true, false, false, false, false, true, true, true, true, false, true, false, false, false, false, false, false, false, false, false, false] rfl rfl (by kernel_rfl) (fun _ _ _ h => h) (Or.inl ⟨by rfl, ?_⟩) ?_ ?_
      rotate_left
      · intro w'
        go_simp
        with_reducible rfl
      rotate_left
      · simp only [Act.put, List.setIfInBounds_toArray, List.set_cons_zero, List.set_cons_succ, i64_w, i32_w]
        rfl
      refine pure_ (i := 13) (N := some 44) (v := ?_) (a' := ?_) #[true, true, true, false, false, false, false, true, true, true, true, false, true, true, false, false, false, false, false, false, false, false, false] rfl rfl (by kernel_rfl) (fun _ _ _ h => h) (Or.inl ⟨by rfl, ?_⟩) ?_ ?_
      rotate_left
      · intro w'
        go_simp
        with_reducible rfl
      rotate_left
      · simp only [Act.put, List.setIfInBounds_toArray, List.set_cons_zero, List.set_cons_succ, i64_w, i32_w]
        rfl
      refine pure_ (i := 14) (N := some 45) (v := ?_) (a' := ?_) #[true, true, true, false, false, false, false, true, true, true, true, false, true, true, true, false, false, false, false, false, false, false, false] rfl rfl (by kernel_rfl) (fun _ _ _ h => h) (Or.inl ⟨by rfl, ?_⟩) ?_ ?_
      rotate_left
      · intro w'
        go_simp
        with_reducible rfl
      rotate_left
      · simp only [Act.put, List.setIfInBounds_toArray, List.set_cons_zero, List.set_cons_succ, i64_w, i32_w]
        rfl
      refine take_ (i := 3) (N := some 34) (v := ?_) (a' := ?_) #[true, true, true, true, false, false, false, true, true, true, true, false, true, true, true, false, false, false, false, false, false, false, false] rfl rfl (by kernel_rfl) (fun _ _ _ h => h) (Or.inl ⟨by rfl, ?_⟩) hHeld ?_ ?_
      rotate_left
      · rintro w' ⟨s0, s1, s2, s3, s4⟩
        go_simp
        with_reducible rfl
      rotate_left
      · simp only [Act.put, List.setIfInBounds_toArray, List.set_cons_zero, List.set_cons_succ, i64_w, i32_w]
        rfl
      refine pure_ (i := 4) (N := some 35) (v := ?_) (a' := ?_) #[true, true, true, true, true, false, false, true, true, true, true, false, true, true, true, false, false, false, false, false, false, false, false] rfl rfl (by kernel_rfl) (fun _ _ _ h => h) (Or.inl ⟨by rfl, ?_⟩) ?_ ?_
      rotate_left
      · intro w'
        go_simp
        with_reducible rfl
      rotate_left
      · simp only [Act.put, List.setIfInBounds_toArray, List.set_cons_zero, List.set_cons_succ, i64_w, i32_w]
        rfl
      refine pure_ (i := 5) (N := some 36) (v := ?_) (a' := ?_) #[true, true, true, true, true, true, false, true, true, true, true, false, true, true, true, false, false, false, false, false, false, false, false] rfl rfl (by kernel_rfl) (fun _ _ _ h => h) (Or.inl ⟨by rfl, ?_⟩) ?_ ?_
      rotate_left
      · intro w'
        go_simp
        with_reducible rfl
      rotate_left
      · simp only [Act.put, List.setIfInBounds_toArray, List.set_cons_zero, List.set_cons_succ, i64_w, i32_w]
        rfl
      refine take_ (i := 6) (N := some 37) (v := ?_) (a' := ?_) #[true, true, true, true, true, true, true, true, true, true, true, false, true, true, true, false, false, false, false, false, false, false, false] rfl rfl (by kernel_rfl) (fun _ _ _ h => h) (Or.inl ⟨by rfl, ?_⟩) hHeld ?_ ?_
      rotate_left
      · rintro w' ⟨s0, s1, s2, s3, s4⟩
        go_simp
        with_reducible rfl
      rotate_left
      · simp only [Act.put, List.setIfInBounds_toArray, List.set_cons_zero, List.set_cons_succ, i64_w, i32_w]
        rfl
      refine take_ (i := 11) (N := some 42) (v := ?_) (a' := ?_) #[true, true, true, true, true, true, true, true, true, true, true, true, true, true, true, false, false, false, false, false, false, false, false] rfl rfl (by kernel_rfl) (fun _ _ _ h => h) (Or.inl ⟨by rfl, ?_⟩) hHeld ?_ ?_
      rotate_left
      · rintro w' ⟨s0, s1, s2, s3, s4⟩
        go_simp
        with_reducible rfl
      rotate_left
      · simp only [Act.put, List.setIfInBounds_toArray, List.set_cons_zero, List.set_cons_succ, i64_w, i32_w]
        rfl
      refine take_ (i := 15) (N := some 46) (v := ?_) (a' := ?_) #[true, true, true, true, true, true, true, true, true, true, true, true, true, true, true, true, false, false, false, false, false, false, false] rfl rfl (by kernel_rfl) (fun _ _ _ h => h) (Or.inl ⟨by rfl, ?_⟩) hHeld ?_ ?_
      rotate_left
      · rintro w' ⟨s0, s1, s2, s3, s4⟩
        go_simp
        with_reducible rfl
      rotate_left
      · simp only [Act.put, List.setIfInBounds_toArray, List.set_cons_zero, List.set_cons_succ, i64_w, i32_w]
        rfl
      refine pure_ (i := 16) (N := some 47) (v := ?_) (a' := ?_) #[true, true, true, true, true, true, true, true, true, true, true, true, true, true, true, true, true, false, false, false, false, false, false] rfl rfl (by kernel_rfl) (fun _ _ _ h => h) (Or.inl ⟨by rfl, ?_⟩) ?_ ?_
      rotate_left
      · intro w'
        go_simp
        with_reducible rfl
      rotate_left
      · simp only [Act.put, List.setIfInBounds_toArray, List.set_cons_zero, List.set_cons_succ, i64_w, i32_w]
        rfl
      refine take_ (i := 17) (N := some 48) (v := ?_) (a' := ?_) #[true, true, true, true, true, true, true, true, true, true, true, true, true, true, true, true, true, true, false, false, false, false, false] rfl rfl (by kernel_rfl) (fun _ _ _ h => h) (Or.inl ⟨by rfl, ?_⟩) hHeld ?_ ?_
      rotate_left
      · rintro w' ⟨s0, s1, s2, s3, s4⟩
        go_simp
        with_reducible rfl
      rotate_left
      · simp only [Act.put, List.setIfInBounds_toArray, List.set_cons_zero, List.set_cons_succ, i64_w, i32_w]
        rfl
      refine pure_ (i := 18) (N := some 49) (v := ?_) (a' := ?_) #[true, true, true, true, true, true, true, true, true, true, true, true, true, true, true, true, true, true, true, false, false, false, false] rfl rfl (by kernel_rfl) (fun _ _ _ h => h) (Or.inl ⟨by rfl, ?_⟩) ?_ ?_
      rotate_left
      · intro w'
        go_simp
        with_reducible rfl
      rotate_left
      · simp only [Act.put, List.setIfInBounds_toArray, List.set_cons_zero, List.set_cons_succ, i64_w, i32_w]
        rfl
      refine pure_ (i := 19) (N := some 50) (v := ?_) (a' := ?_) #[true, true, true, true, true, true, true, true, true, true, true, true, true, true, true, true, true, true, true, true, false, false, false] rfl rfl (by kernel_rfl) (fun _ _ _ h => h) (Or.inl ⟨by rfl, ?_⟩) ?_ ?_
      rotate_left
      · intro w'
        go_simp
        with_reducible rfl
      rotate_left
      · simp only [Act.put, List.setIfInBounds_toArray, List.set_cons_zero, List.set_cons_succ, i64_w, i32_w]
        rfl
      refine pure_ (i := 20) (N := some 51) (v := ?_) (a' := ?_) #[true, true, true, true, true, true, true, true, true, true, true, true, true, true, true, true, true, true, true, true, true, false, false] rfl rfl (by kernel_rfl) (fun _ _ _ h => h) (Or.inl ⟨by rfl, ?_⟩) ?_ ?_
      rotate_left
      · intro w'
        go_simp
        with_reducible rfl
      rotate_left
      · simp only [Act.put, List.setIfInBounds_toArray, List.set_cons_zero, List.set_cons_succ, i64_w, i32_w]
        rfl
      refine pure_ (i := 21) (N := some 52) (v := ?_) (a' := ?_) #[true, true, true, true, true, true, true, true, true, true, true, true, true, true, true, true, true, true, true, true, true, true, false] rfl rfl (by kernel_rfl) (fun _ _ _ h => h) (Or.inl ⟨by rfl, ?_⟩) ?_ ?_
      rotate_left
      · intro w'
        go_simp
        with_reducible rfl
      rotate_left
      · simp only [Act.put, List.setIfInBounds_toArray, List.set_cons_zero, List.set_cons_succ, i64_w, i32_w]
        rfl
      refine last_ (i := 22) (N := none) #[true, true, true, true, true, true, true, true, true, true, true, true, true, true, true, true, true, true, true, true, true, true, true] rfl rfl (by kernel_rfl) (by decide) (fun K hK => ?_)
      refine skip_ (w1 := ?_) (by rfl) rfl ?_ ?_
      rotate_left
      · go_simp
        rfl
      refine hK.out _ _ ?_
      clear hK K
      refine done_ (by kernel_rfl) ?_
      go_wp2
      go_meet
      case rel =>
        have HT : tickF S = { S with clock := IntKind.u64.wrap (S.clock + IntKind.u64.wrap x) } := by unfold tickF; rw [if_pos hlt'.out, HXE.out]
        exact ⟨⟨by rw [HT]; exact (L2.out.tick _).drew⟩, ⟨Kd.R_drew (Kd.R_mono (Kd.R_far (Kd.R_bound HR2.out) (p := ⟨e, 0, none⟩) (fun j hj => by have := hj.2.1; show j ≠ e; omega) _) (fun _ _ => trivial))⟩, ⟨((Only.of_below HB2.out _ _).setCell (p := ⟨e, 0, none⟩) (.inl HL.out.etag) _).drew⟩⟩
    · have dt : decide (S.count < S.ticks.length) = false := decide_eq_false hlt
      have HT := Aside0.mk (show tickF S = S by unfold tickF; rw [if_neg hlt])
      go_wp2
      go_meet
      case rel => exact ⟨⟨by rw [HT.out]; exact L2.out⟩, HR2, ⟨Only.of_below HB2.out _ _⟩⟩
  case rest =>
    obtain ⟨L3, HR3, HO3⟩ := hcut
    obtain ⟨wa, rfl⟩ : ∃ wa : World, wa = wc := ⟨_, rfl⟩
    obtain ⟨g0, q0, ev, _, _, _⟩ := Kd.R_form HR3.out m0
    have e1 : P1 = some ⟨g0, 0, none⟩ := by injection ev
    cases e1
    clear ev
    obtain ⟨hx, _⟩ := Kd.R_celln (0 : Int) HR3.out (q : Int) (Int.natCast_nonneg _) (by omega)
    rw [Int.toNat_natCast, HQR.out] at hx
    have hq := HQ.out
    have q1' : (q : Int) < (rs.length : Int) := by omega
    go_upto_region 7 with (fail)
    clear hx hq q1' HR2 HR3 L2
    obtain ⟨S1, hS1⟩ : ∃ S1, tickF S = S1 := ⟨_, rfl⟩
    have hn1 : n < S1.tasks.length := by rw [← hS1, tickF_tasks]; exact hn
    have HG1 := Aside0.mk (show Good B S1 by rw [← hS1]; exact good_tick HGD.out)
    rw [hS1] at L3
    have HS1 := Aside0.mk hS1
    clear hS1 hd hd2 hd3
    have HBB := Aside0.mk (show B ≤ 4611686018427387904 by omega)
    obtain ⟨gt, qt, ev, _, _, _⟩ := Kd.R_form L3.out.tasks.1 (by have := (Kd.R_reads' L3.out.tasks.1).1; omega)
    have e1 : At = some ⟨gt, 0, none⟩ := by injection ev
    cases e1
    clear ev
    have HHB := Aside0.mk (show w.heap.size ≤ wa.heap.size from HO3.out.size)
    have LC := Aside0.mk (L3.out.move (Only.refl (fun _ => False) g wa) (clean_ext g wa.heap.size) (fun h => h) (fun _ _ h => h))
    have HOW := Aside0.mk (show (ownF S1 n).tasks.length = S1.tasks.length from List.length_set)
    have hn0 : (n : Int) < (S1.tasks.length : Int) := by omega
    obtain ⟨gc, hgc⟩ : ∃ gc, clean g wa.heap.size = gc := ⟨_, rfl⟩
    have HGC := Aside0.mk (show ∀ j, wa.heap.size ≤ j → gc j = .other by rw [← hgc]; exact clean_new g _)
    have HGX := Aside0.mk (show Ext wa.heap.size g gc by rw [← hgc]; exact clean_ext g _)
    rw [hgc] at LC
    clear hgc L3
    go_cut [8] (fun v8 w5 => ∃ (b8 : Nat) (Pw : Option Addr) (qw : Nat) (g4 : Nat → Tag), v8 = .pointer (some ⟨b8, 0, none⟩) ∧ Aside0 (w5.heap[b8]? = some (.cells #[.bool (doneF (taskF S1 n)), .int .i64 (waitF (taskF S1 n)), .slice Pw (wakesF (taskF S1 n)).length qw] 65 (0, 0))) ∧ Aside0 ((Kd.int .i64).R 3 w5 wa.heap.size (fun _ => True) (.slice Pw (wakesF (taskF S1 n)).length qw) (wakesF (taskF S1 n))) ∧
      Aside0 (LoopAt k w5 g4 p (ownF S1 n) A0 c0 A1 c1 A2 c2 (some ⟨gt, 0, none⟩) ct Aw cw e bs) ∧ Aside0 (Ext wa.heap.size gc g4 ∧ ∀ j, wa.heap.size ≤ j → g4 j = .other ∨ g4 j = .told k n) ∧ Aside0 (Only (TA k n) gc wa w5) ∧ wa.heap.size ≤ b8)
    case first =>
      refine start_ (n := 16) (S := fun w' => w'.cell? ⟨p, 3, none⟩ = some (.slice (some ⟨gt, 0, none⟩) S1.tasks.length ct) ∧ w'.cell? ⟨gt, n, none⟩ = some (.iface 59 (.pointer (some ⟨bs.getD n 0, 0, none⟩))) ∧ w'.cell? ⟨p, 5, none⟩ = some (.pointer (some ⟨e, 0, none⟩))) (ds := [15]) #[false, false, false, false, false, false, false, false, false, false, false, false, false, false, false, false] (by kernel_rfl) rfl rfl ⟨(LC.out.drew.cells3 rfl hn1).1, (LC.out.drew.cells3 rfl hn1).2.1, (LC.out.drew.cells3 rfl hn1).2.2⟩ (fun hHeld => ?_)
      refine pure_ (i := 0) (N := some 60) (v := ?_) (a' := ?_) #[true, false, false, false, false, false, false, false, false, false, false, false, false, false, false, false] rfl rfl (by kernel_rfl) (fun _ _ _ h => h) (Or.inl ⟨by rfl, ?_⟩) ?_ ?_
      rotate_left
      · intro w'
        go_simp
        with_reducible rfl
      rotate_left
      · simp only [Act.put, List.setIfInBounds_toArray, List.set_cons_zero, List.set_cons_succ, i64_w, i32_w]
        rfl
      refine pure_ (i := 1) (N := some 61) (v := ?_) (a' := ?_) #[true, true, false, false, false, false, false, false, false, false, false, false, false, false, false, false] rfl rfl (by kernel_rfl) (fun _ _ _ h => h) (Or.inl ⟨by rfl, ?_⟩) ?_ ?_
      rotate_left
      · intro w'
        go_simp
        with_reducible rfl
      rotate_left
      · simp only [Act.put, List.setIfInBounds_toArray, List.set_cons_zero, List.set_cons_succ, i64_w, i32_w]
        rfl
      refine pure_ (i := 2) (N := some 62) (v := ?_) (a' := ?_) #[true, true, true, false, false, false, false, false, false, false, false, false, false, false, false, false] rfl rfl (by kernel_rfl) (fun _ _ _ h => h) (Or.inl ⟨by rfl, ?_⟩) ?_ ?_
      rotate_left
      · intro w'
        go_simp
        with_reducible rfl
      rotate_left
      · simp only [Act.put, List.setIfInBounds_toArray, List.set_cons_zero, List.set_cons_succ, i64_w, i32_w]
        rfl
      refine pure_ (i := 4) (N := some 64) (v := ?_) (a' := ?_) #[true, true, true, false, true, false, false, false, false, false, false, false, false, false, false, false] rfl rfl (by kernel_rfl) (fun _ _ _ h => h) (Or.inl ⟨by rfl, ?_⟩) ?_ ?_
      rotate_left
      · intro w'
        go_simp
        with_reducible rfl
      rotate_left
      · simp only [Act.put, List.setIfInBounds_toArray, List.set_cons_zero, List.set_cons_succ, i64_w, i32_w]
        rfl
      refine pure_ (i := 7) (N := some 67) (v := ?_) (a' := ?_) #[true, true, true, false, true, false, false, true, false, false, false, false, false, false, false, false] rfl rfl (by kernel_rfl) (fun _ _ _ h => h) (Or.inl ⟨by rfl, ?_⟩) ?_ ?_
      rotate_left
      · intro w'
        go_simp
        with_reducible rfl
      rotate_left
      · simp only [Act.put, List.setIfInBounds_toArray, List.set_cons_zero, List.set_cons_succ, i64_w, i32_w]
        rfl
      refine pure_ (i := 8) (N := some 68) (v := ?_) (a' := ?_) #[true, true, true, false, true, false, false, true, true, false, false, false, false, false, false, false] rfl rfl (by kernel_rfl) (fun _ _ _ h => h) (Or.inl ⟨by rfl, ?_⟩) ?_ ?_
      rotate_left
      · intro w'
        go_simp
        with_reducible rfl
      rotate_left
      · simp only [Act.put, List.setIfInBounds_toArray, List.set_cons_zero, List.set_cons_succ, i64_w, i32_w]
        rfl
      refine pure_ (i := 9) (N := some 69) (v := ?_) (a' := ?_) #[true, true, true, false, true, false, false, true, true, true, false, false, false, false, false, false] rfl rfl (by kernel_rfl) (fun _ _ _ h => h) (Or.inl ⟨by rfl, ?_⟩) ?_ ?_
      rotate_left
      · intro w'
        go_simp
        with_reducible rfl
      rotate_left
      · simp only [Act.put, List.setIfInBounds_toArray, List.set_cons_zero, List.set_cons_succ, i64_w, i32_w]
        rfl
      refine take_ (i := 3) (N := some 63) (v := ?_) (a' := ?_) #[true, true, true, true, true, false, false, true, true, true, false, false, false, false, false, false] rfl rfl (by kernel_rfl) (fun _ _ _ h => h) (Or.inl ⟨by rfl, ?_⟩) hHeld ?_ ?_
      rotate_left
      · rintro w' ⟨s0, s1, s2⟩
        go_simp
        with_reducible rfl
      rotate_left
      · simp only [Act.put, List.setIfInBounds_toArray, List.set_cons_zero, List.set_cons_succ, i64_w, i32_w]
        rfl
      refine pure_ (i := 5) (N := some 65) (v := ?_) (a' := ?_) #[true, true, true, true, true, true, false, true, true, true, false, false, false, false, false, false] rfl rfl (by kernel_rfl) (fun _ _ _ h => h) (Or.inl ⟨by rfl, ?_⟩) ?_ ?_
      rotate_left
      · intro w'
        go_simp
        with_reducible rfl
      rotate_left
      · simp only [Act.put, List.setIfInBounds_toArray, List.set_cons_zero, List.set_cons_succ, i64_w, i32_w]
        rfl
      refine take_ (i := 6) (N := some 66) (v := ?_) (a' := ?_) #[true, true, true, true, true, true, true, true, true, true, false, false, false, false, false, false] rfl rfl (by kernel_rfl) (fun _ _ _ h => h) (Or.inl ⟨by rfl, ?_⟩) hHeld ?_ ?_
      rotate_left
      · rintro w' ⟨s0, s1, s2⟩
        go_simp
        with_reducible rfl
      rotate_left
      · simp only [Act.put, List.setIfInBounds_toArray, List.set_cons_zero, List.set_cons_succ, i64_w, i32_w]
        rfl
      refine pure_ (i := 11) (N := some 71) (v := ?_) (a' := ?_) #[true, true, true, true, true, true, true, true, true, true, false, true, false, false, false, false] rfl rfl (by kernel_rfl) (fun _ _ _ h => h) (Or.inl ⟨by rfl, ?_⟩) ?_ ?_
      rotate_left
      · intro w'
        go_simp
        with_reducible rfl
      rotate_left
      · simp only [Act.put, List.setIfInBounds_toArray, List.set_cons_zero, List.set_cons_succ, i64_w, i32_w]
        rfl
      refine pure_ (i := 12) (N := some 72) (v := ?_) (a' := ?_) #[true, true, true, true, true, true, true, true, true, true, false, true, true, false, false, false] rfl rfl (by kernel_rfl) (fun _ _ _ h => h) (Or.inl ⟨by rfl, ?_⟩) ?_ ?_
      rotate_left
      · intro w'
        go_simp
        with_reducible rfl
      rotate_left
      · simp only [Act.put, List.setIfInBounds_toArray, List.set_cons_zero, List.set_cons_succ, i64_w, i32_w]
        rfl
      refine take_ (i := 10) (N := some 70) (v := ?_) (a' := ?_) #[true, true, true, true, true, true, true, true, true, true, true, true, true, false, false, false] rfl rfl (by kernel_rfl) (fun _ _ _ h => h) (Or.inl ⟨by rfl, ?_⟩) hHeld ?_ ?_
      rotate_left
      · rintro w' ⟨s0, s1, s2⟩
        go_simp
        with_reducible rfl
      rotate_left
      · simp only [Act.put, List.setIfInBounds_toArray, List.set_cons_zero, List.set_cons_succ, i64_w, i32_w]
        rfl
      refine two_ (i := 13) (j := 14) (Ni := some 73) (Nj := some 8) #[true, true, true, true, true, true, true, true, true, true, true, true, true, true, false, false] #[true, true, true, true, true, true, true, true, true, true, true, true, true, false, true, false] rfl rfl rfl rfl (by kernel_rfl) (by decide) (by decide) (fun K hK => ?_) (fun K hK => ?_)
      · skip
        refine call_ 26 #[.pointer (some ⟨bs.getD n 0, 0, none⟩), .pointer (some ⟨e, 0, none⟩)] (by rfl) rfl (invoke_run _ (by rfl) (by rfl) (by simp only [List.map_toArray, List.map_cons, List.map_nil]; rfl)) ?_
        refine (actStep_calls (by first | exact LC.out.drew | exact LC.out) HG1.out HBB.out hn1).mono ?_
        rintro ev w4 ⟨vw, g4, rfl, hRw, hX, hO, hL4⟩
        obtain ⟨Pw, qw, rfl⟩ := Kd.R_slice hRw
        have L4 := Aside0.mk hL4
        have HO4 := Aside0.mk (Only.trans (Only.of_below (w := wa) (by first | exact below_drew (Below.refl _ _) | exact below_alloc (below_drew (Below.refl _ _)) _ | exact below_drew (below_alloc (Below.refl _ _) _)) (TA k n) gc) hO (Ext.refl _ _))
        have RW := Aside0.mk (Kd.R_lower hRw (Below.size (B := wa.heap.size) (w := wa) (by first | exact below_drew (Below.refl _ _) | exact below_alloc (below_drew (Below.refl _ _)) _ | exact below_drew (below_alloc (Below.refl _ _) _))))
        have HX4 := Aside0.mk (ext_new hX HGC.out (Below.size (B := wa.heap.size) (w := wa) (by first | exact below_drew (Below.refl _ _) | exact below_alloc (below_drew (Below.refl _ _)) _ | exact below_drew (below_alloc (Below.refl _ _) _))))
        clear hRw hX hO hL4
        refine ⟨_, rfl, ?_⟩
        refine hK.out _ _ ⟨(L4.out.cells3 HOW.out hn1).1, (L4.out.cells3 HOW.out hn1).2.1, (L4.out.cells3 HOW.out hn1).2.2⟩ (fun hHeld => ?_)
        clear hK K
        refine norm_ (a' := ?_) ?_ ?_
        rotate_left
        · show Act.put _ (some 73) _ = _
          simp only [Act.put, List.setIfInBounds_toArray, List.set_cons_zero, List.set_cons_succ, i64_w, i32_w]
          rfl
        refine one_ (i := 14) (N := some 8) #[true, true, true, true, true, true, true, true, true, true, true, true, true, true, true, false] rfl rfl (by kernel_rfl) (by decide) (fun K hK => ?_)
        refine value_ (w1 := ?_) (v := ?_) (by rfl) rfl ?_ ?_
        rotate_left 2
        · go_simp
          constructor
          · rfl
          · rfl
        refine hK.out _ _ ⟨((L4.out.alloc (.cells #[.bool false, .int .i64 0, .slice none 0 0] 65)).cells3 HOW.out hn1).1, ((L4.out.alloc (.cells #[.bool false, .int .i64 0, .slice none 0 0] 65)).cells3 HOW.out hn1).2.1, ((L4.out.alloc (.cells #[.bool false, .int .i64 0, .slice none 0 0] 65)).cells3 HOW.out hn1).2.2⟩ (fun hHeld => ?_)
        clear hK K
        refine norm_ (a' := ?_) ?_ ?_
        rotate_left
        · show Act.put _ (some 8) _ = _
          simp only [Act.put, List.setIfInBounds_toArray, List.set_cons_zero, List.set_cons_succ, i64_w, i32_w]
          rfl
        refine last_ (i := 15) (N := none) #[true, true, true, true, true, true, true, true, true, true, true, true, true, true, true, true] rfl rfl (by kernel_rfl) (by decide) (fun K hK => ?_)
        refine skip_ (w1 := ?_) (by rfl) rfl ?_ ?_
        rotate_left
        · go_simp
          rfl
        refine hK.out _ _ ?_
        clear hK K
        refine done_ (by kernel_rfl) ?_
        go_wp2
        go_meet
        case rel => exact ⟨w4.heap.size, Pw, qw, g4, rfl, ⟨blk_new w4 _⟩, ⟨Kd.R_alloc RW.out _⟩, ⟨L4.out.alloc _⟩, HX4, ⟨HO4.out.alloc _⟩, HO4.out.size⟩
      · skip
        refine value_ (w1 := ?_) (v := ?_) (by rfl) rfl ?_ ?_
        rotate_left 2
        · go_simp
          constructor
          · rfl
          · rfl
        refine hK.out _ _ ⟨((LC.out.alloc (.cells #[.bool false, .int .i64 0, .slice none 0 0] 65)).cells3 rfl hn1).1, ((LC.out.alloc (.cells #[.bool false, .int .i64 0, .slice none 0 0] 65)).cells3 rfl hn1).2.1, ((LC.out.alloc (.cells #[.bool false, .int .i64 0, .slice none 0 0] 65)).cells3 rfl hn1).2.2⟩ (fun hHeld => ?_)
        clear hK K
        refine norm_ (a' := ?_) ?_ ?_
        rotate_left
        · show Act.put _ (some 8) _ = _
          simp only [Act.put, List.setIfInBounds_toArray, List.set_cons_zero, List.set_cons_succ, i64_w, i32_w]
          rfl
        refine one_ (i := 13) (N := some 73) #[true, true, true, true, true, true, true, true, true, true, true, true, true, true, true, false] rfl rfl (by kernel_rfl) (by decide) (fun K hK => ?_)
        refine call_ 26 #[.pointer (some ⟨bs.getD n 0, 0, none⟩), .pointer (some ⟨e, 0, none⟩)] (by rfl) rfl (invoke_run _ (by rfl) (by rfl) (by simp only [List.map_toArray, List.map_cons, List.map_nil]; rfl)) ?_
        refine (actStep_calls (by first | exact (LC.out.alloc (.cells #[.bool false, .int .i64 0, .slice none 0 0] 65)).drew | exact (LC.out.alloc (.cells #[.bool false, .int .i64 0, .slice none 0 0] 65))) HG1.out HBB.out hn1).mono ?_
        rintro ev w4 ⟨vw, g4, rfl, hRw, hX, hO, hL4⟩
        obtain ⟨Pw, qw, rfl⟩ := Kd.R_slice hRw
        have L4 := Aside0.mk hL4
        have HO4 := Aside0.mk (Only.trans (Only.of_below (w := wa) (by first | exact below_drew (Below.refl _ _) | exact below_alloc (below_drew (Below.refl _ _)) _ | exact below_drew (below_alloc (Below.refl _ _) _)) (TA k n) gc) hO (Ext.refl _ _))
        have RW := Aside0.mk (Kd.R_lower hRw (Below.size (B := wa.heap.size) (w := wa) (by first | exact below_drew (Below.refl _ _) | exact below_alloc (below_drew (Below.refl _ _)) _ | exact below_drew (below_alloc (Below.refl _ _) _))))
        have HX4 := Aside0.mk (ext_new hX HGC.out (Below.size (B := wa.heap.size) (w := wa) (by first | exact below_drew (Below.refl _ _) | exact below_alloc (below_drew (Below.refl _ _)) _ | exact below_drew (below_alloc (Below.refl _ _) _))))
        have HZ4 := Aside0.mk ((hX.1 wa.heap.size (by simp)).trans (HGC.out _ (Nat.le_refl _)))
        have Z4 := Aside0.mk (hO.blk (b := wa.heap.size) (o := .cells #[.bool false, .int .i64 0, .slice none 0 0] 65 (0, 0)) (by first | exact blk_new wa _ | exact blk_drew (blk_new wa _) | exact blk_new wa.drew _) (by rw [HGC.out _ (Nat.le_refl _)]; unfold TA; simp))
        obtain ⟨y0, yf0⟩ := blkc Z4.out 0 rfl
        obtain ⟨y1, yf1⟩ := blkc Z4.out 1 rfl
        obtain ⟨y2, yf2⟩ := blkc Z4.out 2 rfl
        clear hRw hX hO hL4
        refine ⟨_, rfl, ?_⟩
        refine hK.out _ _ ⟨(L4.out.cells3 HOW.out hn1).1, (L4.out.cells3 HOW.out hn1).2.1, (L4.out.cells3 HOW.out hn1).2.2⟩ (fun hHeld => ?_)
        clear hK K
        refine norm_ (a' := ?_) ?_ ?_
        rotate_left
        · show Act.put _ (some 73) _ = _
          simp only [Act.put, List.setIfInBounds_toArray, List.set_cons_zero, List.set_cons_succ, i64_w, i32_w]
          rfl
        refine last_ (i := 15) (N := none) #[true, true, true, true, true, true, true, true, true, true, true, true, true, true, true, true] rfl rfl (by kernel_rfl) (by decide) (fun K hK => ?_)
        refine skip_ (w1 := ?_) (by rfl) rfl ?_ ?_
        rotate_left
        · go_simp
          rfl
        refine hK.out _ _ ?_
        clear hK K
        refine done_ (by kernel_rfl) ?_
        go_wp2
        go_meet
        case rel =>
          have z0 := blk_set Z4.out 0 (.bool (doneF (taskF S1 n)))
          have z1 := blk_set z0 1 (.int .i64 (waitF (taskF S1 n)))
          have oq := (((Only.refl (fun t => t = Tag.other) g4 w4).setCell (p := ⟨wa.heap.size, 0, none⟩) (.inl HZ4.out) (.bool (doneF (taskF S1 n)))).setCell (p := ⟨wa.heap.size, 1, none⟩) (.inl HZ4.out) (.int .i64 (waitF (taskF S1 n)))).setCell (p := ⟨wa.heap.size, 2, none⟩) (.inl HZ4.out) (.slice Pw (wakesF (taskF S1 n)).length qw)
          exact ⟨wa.heap.size, Pw, qw, g4, rfl, ⟨blk_put z1 2 _ rfl⟩, ⟨Kd.R_set (Kd.R_set (Kd.R_set RW.out Z4.out (by decide) 0 _) z0 (by decide) 1 _) z1 (by decide) 2 _⟩, ⟨L4.out.move oq (Ext.refl _ _) (by simp) (fun t ht e_ => by subst e_; exact ht)⟩, HX4, ⟨((HO4.out.setCell (p := ⟨wa.heap.size, 0, none⟩) (.inr (Nat.le_refl _)) _).setCell (p := ⟨wa.heap.size, 1, none⟩) (.inr (Nat.le_refl _)) _).setCell (p := ⟨wa.heap.size, 2, none⟩) (.inr (Nat.le_refl _)) _⟩, Nat.le_refl _⟩
    case rest =>
      obtain ⟨b8, Pw, qw, g4, rfl, B8, RW, L4, HX4, HO4, hb8⟩ := hcut
      have HS2 : (ownF S1 n).tasks.length ≤ 64 := by rw [HOW.out]; exact HG1.out.tasks
      obtain ⟨S2, hS2⟩ : ∃ S2, ownF S1 n = S2 := ⟨_, rfl⟩
      rw [hS2] at L4 HS2
      have HS2E := Aside0.mk hS2
      have HWL := Aside0.mk (wakesF_len (taskF S1 n))
      obtain ⟨l, hl⟩ : ∃ l, wakesF (taskF S1 n) = l := ⟨_, rfl⟩
      rw [hl] at B8 RW HWL
      have HLE := Aside0.mk hl
      clear hS2 hl
      obtain ⟨d2, _⟩ := blkc B8.out 2 rfl
      have hwl : l.length ≤ 1 := HWL.out
      go_upto_block 0 with (fail)
      clear d2
      have LI := Aside0.mk (show LoopIs k wc g4 p S2 bs from ⟨_, _, _, _, _, _, _, _, _, _, _, L4.out⟩)
      have HTW := Aside0.mk (show ∀ j, (Value.slice Pw l.length qw).ownBlock = some j → ¬ (g4 j = Tag.waits k) from fun j hj e_ => by
        rcases HX4.out.2 j (Kd.R_base RW.out j hj) with h | h <;> rw [h] at e_ <;> cases e_)
      obtain ⟨wb, rfl⟩ : ∃ wb : World, wb = wc := ⟨_, rfl⟩
      go_cut [] (fun w6 => Aside0 (LoopIs k w6 g4 p (wakeL l S2) bs) ∧ Aside0 (Only (fun t => t = .waits k) g4 wb w6))
      case first =>
        go_wp2
        go_loopg [10, 77] l.length (fun kq v10 v77 w' => ∃ i : Nat, v77 = .int .i64 i ∧ i ≤ l.length ∧ Aside0 (kq = l.length - i) ∧ Aside0 (LoopIs k w' g4 p (wakeL (l.take i) S2) bs) ∧ Aside0 (Only (fun t => t = .waits k) g4 wb w'))
        case atStart => exact ⟨0, rfl, Nat.zero_le _, ⟨rfl⟩, LI, ⟨Only.refl _ _ _⟩⟩
        case round =>
          obtain ⟨i, rfl, hi, HK, LQ, HOQ⟩ := hrel
          by_cases hlt : i < l.length
          · obtain ⟨k1, rfl⟩ : ∃ k1, gk = k1 + 1 := ⟨gk - 1, by have := HK.out; omega⟩
            have HK1 := Aside0.mk (show k1 = l.length - (i + 1) by have := HK.out; omega)
            have hrw := R_only rfl RW.out HOQ.out HTW.out
            obtain ⟨gw, qx, ev, _, _, _⟩ := Kd.R_form hrw (by omega)
            have e1 : Pw = some ⟨gw, 0, none⟩ := by injection ev
            cases e1
            clear ev
            obtain ⟨hx, _⟩ := Kd.R_celln (0 : Int) hrw (i : Int) (Int.natCast_nonneg _) (by omega)
            rw [Int.toNat_natCast] at hx
            obtain ⟨x, hxe⟩ : ∃ x, rdOf (0 : Int) l (i : Int) = x := ⟨_, rfl⟩
            rw [hxe] at hx
            have HSN := Aside0.mk (show wakeL (l.take (i + 1)) S2 = wakeF x (wakeL (l.take i) S2) by rw [wakeL_snoc l i hlt, ← hxe]; simp [rdOf])
            have HWK := Aside0.mk (wake_calls LQ.out (by rw [wakeL_len]; exact HS2) x)
            clear HK hxe hrw
            go_wp2_with (go_at_call 14; refine HWK.out.mono ?_; rintro ev w7 ⟨rfl, hL, hO⟩; have HL7 := Aside0.mk hL; have HO7 := Aside0.mk (HOQ.out.trans hO (Ext.refl _ _)); clear hL hO)
            go_roundg k1
            case measure => omega
            case rel => exact ⟨i + 1, by first | rfl | (congr 1; omega) | (simp; done), hlt, HK1, ⟨by rw [HSN.out]; exact HL7.out⟩, HO7⟩
          · obtain rfl : i = l.length := by omega
            go_wp2
            go_meet
            case rel => exact ⟨⟨by have := LQ.out; rw [List.take_length] at this; exact this⟩, HOQ⟩
      case rest =>
        obtain ⟨L6, HO6⟩ := hcut
        obtain ⟨S3, hS3⟩ : ∃ S3, wakeL l S2 = S3 := ⟨_, rfl⟩
        have hl3 : S3.tasks.length = S1.tasks.length := by rw [← hS3, wakeL_len, ← HS2E.out, HOW.out]
        have HS3E := Aside0.mk hS3
        rw [hS3] at L6
        obtain ⟨A0', c0', A1', c1', A2', c2', At', ct', Aw', cw', e', h6⟩ := L6.out
        have L7 := Aside0.mk h6
        have B9 := Aside0.mk (HO6.out.blk B8.out (by
          rcases HX4.out.2 b8 hb8 with h | h <;> rw [h] <;> simp))
        clear hS3 h6
        obtain ⟨d0, _⟩ := blkc B9.out 0 rfl
        obtain ⟨d1, _⟩ := blkc B9.out 1 rfl
        obtain ⟨f4, _⟩ := blkc L7.out.blk 4 rfl
        rw [hl3] at f4
        obtain ⟨gw', qx', ev, _, _, _⟩ := Kd.R_form L7.out.waits.1 (by rw [waitsF_len, hl3]; omega)
        have e1 : Aw' = some ⟨gw', 0, none⟩ := by injection ev
        cases e1
        clear ev
        obtain ⟨hw1, hw2⟩ := Kd.R_celln (0 : Int) L7.out.waits.1 (n : Int) (Int.natCast_nonneg _) (by rw [hl3]; omega)
        rw [Int.toNat_natCast] at hw1 hw2
        obtain ⟨wd, rfl⟩ : ∃ wo : World, wo = wc := ⟨_, rfl⟩
        have hn3 : n < S3.tasks.length := by rw [hl3]; exact hn1
        have hn30 : (n : Int) < (S1.tasks.length : Int) := by omega
        go_upto_block 2 with (fail)
        go_cut [] (fun w8 => Aside0 (LoopIs k w8 g4 p (endF S3 n (doneF (taskF S1 n)) (waitF (taskF S1 n))) bs) ∧ Aside0 (Only (fun t => t = .waits k) g4 wb w8))
        case first =>
          cases hdn : doneF (taskF S1 n) with
          | true =>
            rw [hdn] at d0
            have HDN := Aside0.mk hdn
            clear hdn
            go_wp2
            go_meet
            case rel => exact ⟨⟨by rw [show endF S3 n (doneF (taskF S1 n)) (waitF (taskF S1 n)) = setWait S3 n (-1) by unfold endF; rw [if_pos HDN.out]]; exact ⟨_, _, _, _, _, _, _, _, _, _, _, L7.out.setW hn3 (-1)⟩⟩, ⟨HO6.out.setCell (p := ⟨gw', n, none⟩) (.inl (L7.out.waits.2 gw' rfl)) _⟩⟩
          | false =>
            rw [hdn] at d0
            have HDN := Aside0.mk hdn
            clear hdn
            obtain ⟨x, hx⟩ : ∃ x, waitF (taskF S1 n) = x := ⟨_, rfl⟩
            rw [hx] at d1
            have HXX := Aside0.mk hx
            by_cases hx1 : 1 ≤ x
            · have dx1 : decide (1 ≤ x) = true := decide_eq_true hx1
              by_cases hx2 : x ≤ 1024
              · have dx2 : decide (x ≤ 1024) = true := decide_eq_true hx2
                have HE := Aside0.mk (show endF S3 n (doneF (taskF S1 n)) (waitF (taskF S1 n)) = setWait S3 n x by rw [HDN.out, HXX.out]; unfold endF; rw [if_neg (by decide), if_pos ⟨hx1, hx2⟩])
                clear hx hx1 hx2
                go_upto_region 16 with (fail)
                refine start_ (n := 9) (S := fun w' => w'.cell? ⟨p, 4, none⟩ = some (.slice (some ⟨gw', 0, none⟩) S1.tasks.length cw') ∧ w'.cell? ⟨b8, 1, none⟩ = some (.int .i64 x)) (ds := [8]) #[false, false, false, false, false, false, false, false, false] (by kernel_rfl) rfl rfl ⟨f4, d1⟩ (fun hHeld => ?_)
                refine pure_ (i := 0) (N := some 103) (v := ?_) (a' := ?_) #[true, false, false, false, false, false, false, false, false] rfl rfl (by kernel_rfl) (fun _ _ _ h => h) (Or.inl ⟨by rfl, ?_⟩) ?_ ?_
                rotate_left
                · intro w'
                  go_simp
                  with_reducible rfl
                rotate_left
                · simp only [Act.put, List.setIfInBounds_toArray, List.set_cons_zero, List.set_cons_succ, i64_w, i32_w]
                  rfl
                refine pure_ (i := 1) (N := some 104) (v := ?_) (a' := ?_) #[true, true, false, false, false, false, false, false, false] rfl rfl (by kernel_rfl) (fun _ _ _ h => h) (Or.inl ⟨by rfl, ?_⟩) ?_ ?_
                rotate_left
                · intro w'
                  go_simp
                  with_reducible rfl
                rotate_left
                · simp only [Act.put, List.setIfInBounds_toArray, List.set_cons_zero, List.set_cons_succ, i64_w, i32_w]
                  rfl
                refine pure_ (i := 2) (N := some 105) (v := ?_) (a' := ?_) #[true, true, true, false, false, false, false, false, false] rfl rfl (by kernel_rfl) (fun _ _ _ h => h) (Or.inl ⟨by rfl, ?_⟩) ?_ ?_
                rotate_left
                · intro w'
                  go_simp
                  with_reducible rfl
                rotate_left
                · simp only [Act.put, List.setIfInBounds_toArray, List.set_cons_zero, List.set_cons_succ, i64_w, i32_w]
                  rfl
                refine pure_ (i := 4) (N := some 107) (v := ?_) (a' := ?_) #[true, true, true, false, true, false, false, false, false] rfl rfl (by kernel_rfl) (fun _ _ _ h => h) (Or.inl ⟨by rfl, ?_⟩) ?_ ?_
                rotate_left
                · intro w'
                  go_simp
                  with_reducible rfl
                rotate_left
                · simp only [Act.put, List.setIfInBounds_toArray, List.set_cons_zero, List.set_cons_succ, i64_w, i32_w]
                  rfl
                refine pure_ (i := 5) (N := some 108) (v := ?_) (a' := ?_) #[true, true, true, false, true, true, false, false, false] rfl rfl (by kernel_rfl) (fun _ _ _ h => h) (Or.inl ⟨by rfl, ?_⟩) ?_ ?_
                rotate_left
                · intro w'
                  go_simp
                  with_reducible rfl
                rotate_left
                · simp only [Act.put, List.setIfInBounds_toArray, List.set_cons_zero, List.set_cons_succ, i64_w, i32_w]
                  rfl
                refine take_ (i := 3) (N := some 106) (v := ?_) (a' := ?_) #[true, true, true, true, true, true, false, false, false] rfl rfl (by kernel_rfl) (fun _ _ _ h => h) (Or.inl ⟨by rfl, ?_⟩) hHeld ?_ ?_
                rotate_left
                · rintro w' ⟨s0, s1⟩
                  go_simp
                  with_reducible rfl
                rotate_left
                · simp only [Act.put, List.setIfInBounds_toArray, List.set_cons_zero, List.set_cons_succ, i64_w, i32_w]
                  rfl
                refine take_ (i := 6) (N := some 109) (v := ?_) (a' := ?_) #[true, true, true, true, true, true, true, false, false] rfl rfl (by kernel_rfl) (fun _ _ _ h => h) (Or.inl ⟨by rfl, ?_⟩) hHeld ?_ ?_
                rotate_left
                · rintro w' ⟨s0, s1⟩
                  go_simp
                  with_reducible rfl
                rotate_left
                · simp only [Act.put, List.setIfInBounds_toArray, List.set_cons_zero, List.set_cons_succ, i64_w, i32_w]
                  rfl
                refine pure_ (i := 7) (N := some 110) (v := ?_) (a' := ?_) #[true, true, true, true, true, true, true, true, false] rfl rfl (by kernel_rfl) (fun _ _ _ h => h) (Or.inl ⟨by rfl, ?_⟩) ?_ ?_
                rotate_left
                · intro w'
                  go_simp
                  with_reducible rfl
                rotate_left
                · simp only [Act.put, List.setIfInBounds_toArray, List.set_cons_zero, List.set_cons_succ, i64_w, i32_w]
                  rfl
                refine last_ (i := 8) (N := none) #[true, true, true, true, true, true, true, true, true] rfl rfl (by kernel_rfl) (by decide) (fun K hK => ?_)
                refine skip_ (w1 := ?_) (by rfl) rfl ?_ ?_
                rotate_left
                · go_simp
                  rfl
                refine hK.out _ _ ?_
                clear hK K
                refine done_ (by kernel_rfl) ?_
                go_wp2
                go_meet
                case rel => exact ⟨⟨by rw [HE.out]; exact ⟨_, _, _, _, _, _, _, _, _, _, _, (L7.out.setW hn3 x).drew⟩⟩, ⟨(HO6.out.setCell (p := ⟨gw', n, none⟩) (.inl (L7.out.waits.2 gw' rfl)) _).drew⟩⟩
              · have dx2 : decide (x ≤ 1024) = false := decide_eq_false hx2
                have HE := Aside0.mk (show endF S3 n (doneF (taskF S1 n)) (waitF (taskF S1 n)) = S3 by rw [HDN.out, HXX.out]; unfold endF; rw [if_neg (by decide), if_neg (fun hh => hx2 hh.2)])
                clear hx
                go_wp2
                go_meet
                case rel => exact ⟨⟨by rw [HE.out]; exact L6.out⟩, HO6⟩
            · have dx1 : decide (1 ≤ x) = false := decide_eq_false hx1
              have HE := Aside0.mk (show endF S3 n (doneF (taskF S1 n)) (waitF (taskF S1 n)) = S3 by rw [HDN.out, HXX.out]; unfold endF; rw [if_neg (by decide), if_neg (fun hh => hx1 hh.1)])
              clear hx
              go_wp2
              go_meet
              case rel => exact ⟨⟨by rw [HE.out]; exact L6.out⟩, HO6⟩
        case rest =>
          obtain ⟨L8, HO8⟩ := hcut
          obtain ⟨S8, hS8⟩ : ∃ S8, endF S3 n (doneF (taskF S1 n)) (waitF (taskF S1 n)) = S8 := ⟨_, rfl⟩
          have hc8 : S8.count = S.count := by
            rw [← hS8, endF_count, ← HS3E.out, wakeL_count, ← HS2E.out]
            show S1.count = _
            rw [← HS1.out, tickF_count]
          have HFIN := Aside0.mk (show stepF S pick = { S8 with count := S.count + 1 } by
            unfold stepF
            rw [if_pos HS.out, HN.out, HS1.out]
            have e1 : moveF S1 n = endF (wakeL (wakesF (taskF S1 n)) (ownF S1 n)) n (doneF (taskF S1 n)) (waitF (taskF S1 n)) := rfl
            rw [e1, HLE.out, HS2E.out, HS3E.out, hS8])
          rw [hS8] at L8
          obtain ⟨A0', c0', A1', c1', A2', c2', At', ct', Aw', cw', e', h8⟩ := L8.out
          obtain ⟨y6, yf6⟩ := blkc h8.blk 6 rfl
          rw [hc8] at y6
          have L9 := Aside0.mk (h8.steps (S.count + 1))
          have HO9 := Aside0.mk (((((HO3.out.mono (T' := TP k) (fun t ht => by subst ht; rfl)).trans (HO4.out.mono (T' := TP k) (fun t ht => by rcases ht with h | h | h <;> subst h <;> rfl)) (fun j hj => HGX.out j (Nat.lt_of_lt_of_le hj HHB.out))).trans (HO8.out.mono (T' := TP k) (fun t ht => by subst ht; rfl)) (fun j hj => (HX4.out.1 j (Nat.lt_of_lt_of_le hj HHB.out)).trans (HGX.out j (Nat.lt_of_lt_of_le hj HHB.out)))).setCell (p := ⟨p, 6, none⟩) (.inl (by rw [HL.out.tag]; rfl)) (.int .i64 ((S.count + 1 : Nat) : Int))))
          clear hS8 h8 hc8
          go_wp2
          go_ret2
          exact ⟨rfl, g4, fun j hj => (HX4.out.1 j (Nat.lt_of_lt_of_le hj HHB.out)).trans (HGX.out j (Nat.lt_of_lt_of_le hj HHB.out)), HO9.out, by rw [HFIN.out]; exact ⟨_, _, _, _, _, _, _, _, _, _, _, L9.out⟩⟩
end
end Go.Proofs.Ytompgphlinjglaa.P
