/- Both, with a state of the program's loop and one of the reference's: what a call on either leaves. -/
import Derived.Test.YtompgphlinjglaaS24
import Derived.Test.YtompgphlinjglaaS16
import Derived.Test.YtompgphlinjglaaS17
namespace Go.Proofs.Ytompgphlinjglaa.P
open Go.RowKit Go.Proofs.YtompgphlinjglaaW.PrintWords Go.Proofs.YtompgphlinjglaaW.PrintLast Go.Proofs.YtompgphlinjglaaW.PrintMore
attribute [local go_sem] Oper.semAt_some
set_option linter.unusedVariables false
set_option linter.unusedSimpArgs false

section
variable {k : Nat} {w w0 w1 : World} {g g0 g1 : Nat → Tag} {q pl pr : Nat} {S R : LS} {Aa : Option Addr} {ca : Nat} {bs : List Nat} {T : Tag → Prop}
structure BoAt (k : Nat) (w : World) (g : Nat → Tag) (q pl pr : Nat) (S R : LS) (Aa : Option Addr) (ca : Nat) (bs : List Nat) : Prop where
  blk : w.heap[q]? = some (.cells #[.pointer (some ⟨pl, 0, none⟩), .slice Aa bs.length ca, .pointer (some ⟨pr, 0, none⟩)] 38 (0, 0))
  acts : Row kPtr 59 w g (.bacts k) (.slice Aa bs.length ca) bs
  prog : LoopIs k w g pl S bs
  refr : RefIs k w g pr R
  tag : g q = .both k
def BoIs (k : Nat) (w : World) (g : Nat → Tag) (q pl pr : Nat) (S R : LS) : Prop := ∃ Aa ca bs, BoAt k w g q pl pr S R Aa ca bs
theorem BoIs.both (h : BoIs k w g q pl pr S S) : ∃ Aa ca bs, BothAt k w g q S pl pr Aa ca bs := by
  obtain ⟨Aa, ca, bs, h⟩ := h
  exact ⟨Aa, ca, bs, h.blk, h.acts, h.prog, h.refr, h.tag⟩
theorem BothIs.bo (h : BothIs k w g q S) : ∃ pl pr, BoIs k w g q pl pr S S := by
  obtain ⟨pl, pr, Aa, ca, bs, h⟩ := h
  exact ⟨pl, pr, Aa, ca, bs, h.blk, h.acts, h.prog, h.refr, h.tag⟩
theorem BoIs.move (h : BoIs k w g q pl pr S R) (ho : Only T g w w1) (he : Ext w.heap.size g g1) (h0 : ¬ T .data) (h1 : ∀ t, TB k t → ¬ T t) : BoIs k w1 g1 q pl pr S R := by
  obtain ⟨Aa, ca, bs, h⟩ := h
  exact ⟨Aa, ca, bs, ho.blk h.blk (by rw [h.tag]; exact h1 _ (.inr (.inr (.inl rfl)))), h.acts.move rfl ho he (h1 _ (.inr (.inr (.inr rfl)))), h.prog.move ho he h0 (fun t ht => h1 t (.inl ht)), h.refr.move ho he h0 (fun t ht => h1 t (.inr (.inl ht))), (he q (blk_lt h.blk)).trans h.tag⟩
theorem TP_TR {t : Tag} (h : TR k t) : ¬ TP k t := fun h2 => by cases t <;> first | exact h | exact h2
/-- The state behind some calls. -/
def Cu (k : Nat) (g0 : Nat → Tag) (w0 : World) (q pl pr : Nat) (S R : LS) (w : World) : Prop := ∃ g, Ext w0.heap.size g0 g ∧ Only (TB k) g0 w0 w ∧ BoIs k w g q pl pr S R
theorem Cu.of (h : BoIs k w g q pl pr S R) : Cu k g w q pl pr S R w := ⟨g, Ext.refl _ _, Only.refl _ _ _, h⟩
theorem Cu.after {w2 : World} (he : Ext w.heap.size g0 g) (ho : Only (TB k) g0 w w1) (h : Cu k g w1 q pl pr S R w2) : Cu k g0 w q pl pr S R w2 := by
  obtain ⟨g2, e2, o2, b2⟩ := h
  exact ⟨g2, he.trans e2 ho.size, ho.trans o2 he, b2⟩
theorem Cu.below (h : Cu k g0 w0 q pl pr S R w) (hb : Below w.heap.size w w1) : Cu k g0 w0 q pl pr S R w1 := by
  obtain ⟨g, e, o, b⟩ := h
  exact ⟨g, e, o.below hb, b.move (Only.of_below hb (fun _ => False) g) (Ext.refl _ _) (fun h => h) (fun _ _ h => h)⟩
theorem Cu.alloc (h : Cu k g0 w0 q pl pr S R w) (o : Obj) : Cu k g0 w0 q pl pr S R (w.alloc o) := h.below (below_alloc (Below.refl _ _) o)
theorem Cu.drew (h : Cu k g0 w0 q pl pr S R w) : Cu k g0 w0 q pl pr S R w.drew := h.below (below_drew (Below.refl _ _))
theorem Cu.drewN (h : Cu k g0 w0 q pl pr S R w) (n : Nat) : Cu k g0 w0 q pl pr S R (w.drewN n) := h.below (pw_below_drewN (Below.refl _ _) n)
theorem Cu.size (h : Cu k g0 w0 q pl pr S R w) : w0.heap.size ≤ w.heap.size := by obtain ⟨g, e, o, b⟩ := h; exact o.size
theorem Cu.cells (h : Cu k g0 w0 q pl pr S R w) : w.cell? ⟨q, 0, none⟩ = some (.pointer (some ⟨pl, 0, none⟩)) ∧ w.cell? ⟨q, 2, none⟩ = some (.pointer (some ⟨pr, 0, none⟩)) := by
  obtain ⟨g, e, o, Aa, ca, bs, b⟩ := h
  exact ⟨(blkc b.blk 0 rfl).1, (blkc b.blk 2 rfl).1⟩
theorem Cu.fin (h : Cu k gData w0 q pl pr S R w) : Below w0.heap.size w0 w := by
  obtain ⟨g, e, o, b⟩ := h
  exact o.fin (fun _ _ => rfl) TB_data
theorem BoIs.setProg {S1 : LS} (h : BoIs k w g q pl pr S R) (he : Ext w.heap.size g g1) (ho : Only (TP k) g w w1) (hp : ∀ bs, LoopIs k w g pl S bs → LoopIs k w1 g1 pl S1 bs) : BoIs k w1 g1 q pl pr S1 R := by
  obtain ⟨Aa, ca, bs, h⟩ := h
  exact ⟨Aa, ca, bs, ho.blk h.blk (by rw [h.tag]; exact fun h => h), h.acts.move rfl ho he (fun h => h), hp bs h.prog, h.refr.move ho he TP_data (fun t ht => TP_TR ht), (he q (blk_lt h.blk)).trans h.tag⟩
theorem Cu.prog {S1 : LS} {f : Nat} {vs : Array Value} {P : Ending → Prop} (h : Cu k g0 w0 q pl pr S R w)
    (hc : ∀ g bs, LoopIs k w g pl S bs → Calls Try.prog f vs w fun e w' => P e ∧ LPost k w g pl S1 w' bs) : Calls Try.prog f vs w fun e w' => P e ∧ Cu k g0 w0 q pl pr S1 R w' := by
  obtain ⟨g, e, o, Aa, ca, bs, b⟩ := h
  refine (hc g bs b.prog).mono ?_
  rintro ev w' ⟨hp, g1, he, ho, hl⟩
  refine ⟨hp, g1, e.trans he o.size, o.trans (ho.mono (fun t ht => .inl ht)) e, Aa, ca, bs, ho.blk b.blk (by rw [b.tag]; exact fun h => h), b.acts.move rfl ho he (fun h => h), hl, b.refr.move ho he TP_data (fun t ht => TP_TR ht), (he q (blk_lt b.blk)).trans b.tag⟩
theorem Cu.refr {R1 : LS} {f : Nat} {vs : Array Value} {P : Ending → Prop} (h : Cu k g0 w0 q pl pr S R w)
    (hc : ∀ g, RefIs k w g pr R → Calls Try.prog f vs w fun e w' => P e ∧ RPost k w g pr R1 w') : Calls Try.prog f vs w fun e w' => P e ∧ Cu k g0 w0 q pl pr S R1 w' := by
  obtain ⟨g, e, o, Aa, ca, bs, b⟩ := h
  refine (hc g b.refr).mono ?_
  rintro ev w' ⟨hp, g1, he, ho, hl⟩
  refine ⟨hp, g1, e.trans he o.size, o.trans (ho.mono (fun t ht => .inr (.inl ht))) e, Aa, ca, bs, ho.blk b.blk (by rw [b.tag]; exact fun h => h), b.acts.move rfl ho he (fun h => h), b.prog.move ho he (fun h => h) (fun t ht h2 => TP_TR h2 ht), hl, (he q (blk_lt b.blk)).trans b.tag⟩
theorem Cu.lstep {B : Nat} (h : Cu k g0 w0 q pl pr S R w) (hg : Good B S) (hB : B ≤ 1152921504606846976) (pick : Int) : Calls Try.prog 11 #[.pointer (some ⟨pl, 0, none⟩), .int .i64 pick] w fun e w' => e = .returned (.tuple #[.int .i64 (whoF S pick), .bool (stepsF S pick)]) ∧ Cu k g0 w0 q pl pr (stepF S pick) R w' :=
  h.prog (fun g bs hl => step_calls hl hg hB pick)
theorem Cu.lnext {B : Nat} (h : Cu k g0 w0 q pl pr S R w) (hg : Good B S) (hB : B ≤ 1152921504606846976) : Calls Try.prog 22 #[.pointer (some ⟨pl, 0, none⟩)] w fun e w' => e = .returned (.tuple #[.int .i64 (whoF S (pickF S)), .bool (stepsF S (pickF S))]) ∧ Cu k g0 w0 q pl pr (nextF S) R w' :=
  h.prog (fun g bs hl => next_calls hl hg hB)
theorem Cu.lrun {B : Nat} (h : Cu k g0 w0 q pl pr S R w) (hg : Good B S) (most : Int) (hB : B + most.toNat ≤ 1152921504606846976) : Calls Try.prog 16 #[.pointer (some ⟨pl, 0, none⟩), .int .i64 most] w fun e w' => e = .returned (.int .i64 (ranF most.toNat S)) ∧ Cu k g0 w0 q pl pr (runF most.toNat S) R w' :=
  h.prog (fun g bs hl => run_calls hl hg most hB)
theorem Cu.lwake (h : Cu k g0 w0 q pl pr S R w) (hn : S.tasks.length ≤ 64) (c : Int) : Calls Try.prog 14 #[.pointer (some ⟨pl, 0, none⟩), .int .i64 c] w fun e w' => e = .returned (.int .i64 (wokenF c S)) ∧ Cu k g0 w0 q pl pr (wakeF c S) R w' :=
  h.prog (fun g bs hl => (wake_calls hl hn c).mono (fun e w' hh => ⟨hh.1, g, Ext.refl _ _, hh.2.2.mono (fun t ht => by subst ht; rfl), hh.2.1⟩))
theorem Cu.rstep {B : Nat} (h : Cu k g0 w0 q pl pr S R w) (hg : Good B R) (hB : B ≤ 1152921504606846976) (pick : Int) : Calls Try.prog 39 #[.pointer (some ⟨pr, 0, none⟩), .int .i64 pick] w fun e w' => e = .returned (.tuple #[.int .i64 (whoF R pick), .bool (stepsF R pick)]) ∧ Cu k g0 w0 q pl pr S (stepF R pick) w' :=
  h.refr (fun g hl => rstep_calls hl hg hB pick)
theorem Cu.rnext {B : Nat} (h : Cu k g0 w0 q pl pr S R w) (hg : Good B R) (hB : B ≤ 1152921504606846976) : Calls Try.prog 40 #[.pointer (some ⟨pr, 0, none⟩)] w fun e w' => e = .returned (.tuple #[.int .i64 (whoF R (pickF R)), .bool (stepsF R (pickF R))]) ∧ Cu k g0 w0 q pl pr S (nextF R) w' :=
  h.refr (fun g hl => rnext_calls hl hg hB)
theorem Cu.rrun {B : Nat} (h : Cu k g0 w0 q pl pr S R w) (hg : Good B R) (most : Int) (hB : B + most.toNat ≤ 1152921504606846976) : Calls Try.prog 41 #[.pointer (some ⟨pr, 0, none⟩), .int .i64 most] w fun e w' => e = .returned (.int .i64 (ranF most.toNat R)) ∧ Cu k g0 w0 q pl pr S (runF most.toNat R) w' :=
  h.refr (fun g hl => rrun_calls hl hg most hB)
theorem Cu.rwake (h : Cu k g0 w0 q pl pr S R w) (hn : R.tasks.length ≤ 64) (c : Int) : Calls Try.prog 42 #[.pointer (some ⟨pr, 0, none⟩), .int .i64 c] w fun e w' => e = .returned (.int .i64 (wokenF c R)) ∧ Cu k g0 w0 q pl pr S (wakeF c R) w' :=
  h.refr (fun g hl => (rwake_calls hl hn c).mono (fun e w' hh => ⟨hh.1, g, Ext.refl _ _, hh.2.2.mono TRA_TR, hh.2.1⟩))
theorem Cu.lready (h : Cu k g0 w0 q pl pr S R w) (hn : S.tasks.length ≤ 64) : Calls Try.prog 15 #[.pointer (some ⟨pl, 0, none⟩)] w fun e w' => ∃ v, e = .returned v ∧ Kd.R (Kd.int .i64) 3 w' w.heap.size (fun _ => True) v (readyF S) ∧ Below w.heap.size w w' ∧ Cu k g0 w0 q pl pr S R w' := by
  obtain ⟨g, e, o, Aa, ca, bs, b⟩ := id h
  refine (ready_calls b.prog hn).mono ?_
  rintro _ w' ⟨v, rfl, hR, hb⟩
  exact ⟨v, rfl, hR, hb, h.below hb⟩
theorem Cu.lwaits (h : Cu k g0 w0 q pl pr S R w) (hn : S.tasks.length ≤ 64) : Calls Try.prog 13 #[.pointer (some ⟨pl, 0, none⟩)] w fun e w' => ∃ v, e = .returned v ∧ Kd.R (Kd.int .i64) 3 w' w.heap.size (fun _ => True) v (waitsF S) ∧ Below w.heap.size w w' ∧ Cu k g0 w0 q pl pr S R w' := by
  obtain ⟨g, e, o, Aa, ca, bs, b⟩ := id h
  refine (waits_calls b.prog hn).mono ?_
  rintro _ w' ⟨v, rfl, hR, hb⟩
  exact ⟨v, rfl, hR, hb, h.below hb⟩
theorem Cu.rready (h : Cu k g0 w0 q pl pr S R w) (hn : R.tasks.length ≤ 64) : Calls Try.prog 43 #[.pointer (some ⟨pr, 0, none⟩)] w fun e w' => ∃ v, e = .returned v ∧ Kd.R (Kd.int .i64) 3 w' w.heap.size (fun _ => True) v (readyF R) ∧ Below w.heap.size w w' ∧ Cu k g0 w0 q pl pr S R w' := by
  obtain ⟨g, e, o, Aa, ca, bs, b⟩ := id h
  refine (rready_calls b.refr hn).mono ?_
  rintro _ w' ⟨v, rfl, hR, hb⟩
  exact ⟨v, rfl, hR, hb, h.below hb⟩
theorem Cu.lnow (h : Cu k g0 w0 q pl pr S R w) : Calls Try.prog 19 #[.pointer (some ⟨pl, 0, none⟩)] w fun e w' => e = .returned (.int .u64 S.clock) ∧ w = w' := by
  obtain ⟨g, e, o, Aa, ca, bs, b⟩ := id h
  exact now_calls b.prog
theorem Cu.lsteps (h : Cu k g0 w0 q pl pr S R w) : Calls Try.prog 18 #[.pointer (some ⟨pl, 0, none⟩)] w fun e w' => e = .returned (.int .i64 S.count) ∧ w = w' := by
  obtain ⟨g, e, o, Aa, ca, bs, b⟩ := id h
  exact steps_calls b.prog
theorem Cu.ldone (h : Cu k g0 w0 q pl pr S R w) : Calls Try.prog 17 #[.pointer (some ⟨pl, 0, none⟩)] w fun e w' => e = .returned (.bool (!(waitsF S).any p38)) ∧ ∃ n, w' = w.drewN n := by
  obtain ⟨g, e, o, Aa, ca, bs, b⟩ := id h
  exact (done_calls b.prog).mono (fun _ _ hh => ⟨hh.1, hh.2.out⟩)
theorem Cu.rdone (h : Cu k g0 w0 q pl pr S R w) (hn : R.tasks.length ≤ 64) : Calls Try.prog 44 #[.pointer (some ⟨pr, 0, none⟩)] w fun e w' => e = .returned (.bool (rdoneF R)) ∧ w = w' := by
  obtain ⟨g, e, o, Aa, ca, bs, b⟩ := id h
  exact rdone_calls b.refr hn
/-- A further task whose acts lie in what is only read. -/
theorem Cu.add (h : Cu k g0 w0 q pl pr S S w) {A : Option Addr} {c : Nat} {acts : List (Int × Int)} (hA : Dat kAct w0 g0 A acts.length acts) (hc : acts.length ≤ c) (hl : acts.length ≤ 8796093022208) (hn : S.tasks.length ≤ 64) :
    Calls Try.prog 10 #[.pointer (some ⟨q, 0, none⟩), .slice A acts.length c] w fun e w' => e = .returned (.bool true) ∧ ∃ pl pr, Cu k g0 w0 q pl pr (addF S acts) (addF S acts) w' := by
  obtain ⟨g, e, o, b⟩ := id h
  obtain ⟨Aa, ca, bs, hb⟩ := b.both
  refine (both_add hb (hA.move o e TB_data) hc hl hn).mono ?_
  rintro ev w' ⟨rfl, g1, e1, o1, b1⟩
  obtain ⟨pl1, pr1, b2⟩ := b1.bo
  exact ⟨rfl, pl1, pr1, g1, e.trans e1 o.size, o.trans o1 e, b2⟩
theorem blk_acts {W : World} {b : Nat} (xs : List (Int × Int)) (hm : xs.length ≤ 9223372036854775807) (hb : W.heap[b]? = some (.cells (actCells xs).toArray 31 (0, 0))) : kAct.C W (some ⟨b, 0, none⟩) xs.length xs := by
  refine ⟨rfl, hm, fun _ => ⟨_, rfl, fun j a hj => ⟨[.int .i64 a.1, .int .i64 a.2], rfl, ⟨[.int .i64 a.1], [.int .i64 a.2], rfl, rfl, rfl⟩, fun i u hu => ?_⟩⟩⟩
  obtain ⟨h1, h2⟩ := actCells_at xs j a hj
  have s : kAct.sz = 2 := rfl
  rw [s, add_plain, blk_cell hb]
  match i, hu with
  | 0, hu =>
    have : u = .int .i64 a.1 := by simpa using hu.symm
    subst this
    simpa using h1
  | 1, hu =>
    have : u = .int .i64 a.2 := by simpa using hu.symm
    subst this
    simpa using h2
  | i + 2, hu => simp at hu
theorem dat_acts {W : World} {b : Nat} (xs : List (Int × Int)) (hm : xs.length ≤ 9223372036854775807) (hb : W.heap[b]? = some (.cells (actCells xs).toArray 31 (0, 0))) (hg : g b = .data) : Dat kAct W g (some ⟨b, 0, none⟩) xs.length xs :=
  fun W' hW => blk_acts xs hm ((hW b hg (blk_lt hb)).trans hb)
/-- The state, with a new row of acts as data. -/
theorem Cu.lit (h : Cu k g0 w0 q pl pr S R w) (xs : List (Int × Int)) (hm : xs.length ≤ 9223372036854775807) {W : World} (hb : Below w.heap.size w W) {b : Nat} (hle : w.heap.size ≤ b) (hx : W.heap[b]? = some (.cells (actCells xs).toArray 31 (0, 0))) :
    ∃ g, Ext w0.heap.size g0 g ∧ Only (TB k) g0 w0 W ∧ Cu k g W q pl pr S R W ∧ Dat kAct W g (some ⟨b, 0, none⟩) xs.length xs := by
  obtain ⟨g, e, o, bo⟩ := id h
  have hs := o.size
  have E : Ext w.heap.size g (put g b .data) := put_ext _ _ _ _ hle
  exact ⟨put g b .data, e.trans E hs, o.below hb, Cu.of (bo.move (Only.of_below hb (fun _ => False) g) E (fun h => h) (fun _ _ h => h)), dat_acts xs hm hx (put_at _ _ _)⟩
theorem Cu.addLit (h : Cu k g0 w0 q pl pr S S w) {c : Nat} {acts : List (Int × Int)} {W : World} (hb : Below w.heap.size w W) {b : Nat} (hle : w.heap.size ≤ b) (hx : W.heap[b]? = some (.cells (actCells acts).toArray 31 (0, 0))) (hc : acts.length ≤ c) (hl : acts.length ≤ 8796093022208) (hn : S.tasks.length ≤ 64) :
    Calls Try.prog 10 #[.pointer (some ⟨q, 0, none⟩), .slice (some ⟨b, 0, none⟩) acts.length c] W fun e w' => e = .returned (.bool true) ∧ ∃ pl pr, Cu k g0 w0 q pl pr (addF S acts) (addF S acts) w' := by
  obtain ⟨g, e, o, h1, hd⟩ := h.lit acts (by omega) hb hle hx
  refine (h1.add hd hc hl hn).mono ?_
  rintro ev w' ⟨rfl, pl1, pr1, h2⟩
  exact ⟨rfl, pl1, pr1, Cu.after e o h2⟩
theorem Cu.of_both (he : Ext w.heap.size g g1) (hb : Below w.heap.size w w1) (h : BothIs k w1 g1 q S) : ∃ pl pr, Cu k g w q pl pr S S w1 := by
  obtain ⟨pl, pr, b⟩ := h.bo
  exact ⟨pl, pr, g1, he, Only.of_below hb _ _, b⟩
end
theorem same_go (x0 x1 : List Int) (hl : x0.length = x1.length) (hm : x0.length ≤ 9223372036854775807) : ∀ (n i : Nat), i + n = x0.length → PSchedPlays.atriumlaw03_sameInts.l0 (n + 1) x0 x1 i = some (decide (x0.drop i = x1.drop i)) := by
  intro n
  induction n with
  | zero =>
    intro i hi
    unfold PSchedPlays.atriumlaw03_sameInts.l0
    rw [if_neg (by omega), List.drop_of_length_le (by omega), List.drop_of_length_le (by omega)]
    rfl
  | succ n ih =>
    intro i hi
    unfold PSchedPlays.atriumlaw03_sameInts.l0
    have h0 : i < x0.length := by omega
    have h1 : i < x1.length := by omega
    rw [if_pos (by omega), if_pos (by omega), if_pos (by omega), List.drop_eq_getElem_cons h0, List.drop_eq_getElem_cons h1]
    have e0 : rd x0 (i : Int) = x0[i] := by simp [rd, h0]
    have e1 : rd x1 (i : Int) = x1[i] := by simp [rd, h1]
    rw [e0, e1]
    by_cases hh : x0[i] = x1[i]
    · rw [if_pos hh, show wrap64 ((i : Int) + 1) = ((i + 1 : Nat) : Int) by unfold wrap64; omega, ih (i + 1) (by omega)]
      exact congrArg some (decide_eq_decide.2 ⟨fun e => by rw [hh, e], fun e => (List.cons.inj e).2⟩)
    · rw [if_neg hh]
      exact congrArg some (decide_eq_false (fun e => hh (List.cons.inj e).1)).symm
theorem same_f (x0 x1 : List Int) (hm : x0.length ≤ 9223372036854775807) : ∃ k, PSchedPlays.atriumlaw03_sameInts.f k x0 x1 = some (decide (x0 = x1)) := by
  by_cases hl : x0.length = x1.length
  · refine ⟨x0.length + 1, ?_⟩
    unfold PSchedPlays.atriumlaw03_sameInts.f
    rw [if_pos (by omega)]
    have := same_go x0 x1 hl hm x0.length 0 (by omega)
    simpa using this
  · refine ⟨0, ?_⟩
    unfold PSchedPlays.atriumlaw03_sameInts.f
    rw [if_neg (by omega), decide_eq_false (fun e => hl (by rw [e]))]
theorem same_calls (A0 : Option Addr) (c0 : Nat) (l0 : List Int) (A1 : Option Addr) (c1 : Nat) (l1 : List Int) (w : World) (hr0 : Kd.C (Kd.int .i64) w A0 l0.length l0) (hc0 : l0.length ≤ c0) (hr1 : Kd.C (Kd.int .i64) w A1 l1.length l1) (hc1 : l1.length ≤ c1) :
    Calls Try.prog 12 #[.slice A0 l0.length c0, .slice A1 l1.length c1] w fun e w' => e = .returned (.bool (decide (l0 = l1))) ∧ ∃ n, w' = w.drewN n := by
  obtain ⟨k, hk⟩ := same_f l0 l1 hr0.2.1
  exact (PSchedPlays.atriumlaw03_sameInts.calls k A0 c0 l0 A1 c1 l1 _ w hr0 hc0 hr1 hc1 hk).mono (fun _ _ hh => ⟨hh.1, hh.2.out⟩)
end Go.Proofs.Ytompgphlinjglaa.P
