/- Contracts: a task's step, told of the whole loop. -/
import Derived.Test.YtompgphlinjglaaS7
namespace Go.Proofs.Ytompgphlinjglaa.P
open Go.RowKit Go.Proofs.YtompgphlinjglaaW.PrintWords Go.Proofs.YtompgphlinjglaaW.PrintLast Go.Proofs.YtompgphlinjglaaW.PrintMore
set_option linter.unusedVariables false
set_option linter.unusedSimpArgs false

section
variable {k : Nat} {w w1 : World} {g g1 : Nat → Tag} {p : Nat} {S : LS} {A0 : Option Addr} {c0 : Nat} {A1 : Option Addr} {c1 : Nat} {A2 : Option Addr} {c2 : Nat} {At : Option Addr} {ct : Nat} {Aw : Option Addr} {cw : Nat} {e : Nat} {bs : List Nat}
theorem LoopAt.move {T : Tag → Prop} (h : LoopAt k w g p S A0 c0 A1 c1 A2 c2 At ct Aw cw e bs) (ho : Only T g w w1) (he : Ext w.heap.size g g1) (h0 : ¬ T .data) (h1 : ∀ t, TP k t → ¬ T t) : LoopAt k w1 g1 p S A0 c0 A1 c1 A2 c2 At ct Aw cw e bs :=
  ⟨ho.blk h.blk (by rw [h.tag]; exact h1 _ rfl), ho.blk h.env (by rw [h.etag]; exact h1 _ rfl), h.l0, h.l1, h.l2, h.picks.move ho he h0, h.ticks.move ho he h0, h.draws.move ho he h0,
    h.tasks.move rfl ho he (h1 _ rfl), h.waits.move rfl ho he (h1 _ rfl), fun i hi => (h.each i hi).move ho he h0 (h1 _ rfl) (h1 _ rfl), (he p (blk_lt h.blk)).trans h.tag, (he e (blk_lt h.env)).trans h.etag⟩
theorem Only.congr {T : Tag → Prop} (h : Only T g w w1) (he : Ext w.heap.size g1 g) : Only T g1 w w1 := ⟨h.os, h.tape, h.output, h.size, fun b hb hn => h.block b hb (by rw [he b hb]; exact hn)⟩
/-- The tags, what is not there yet untold. -/
def clean (g : Nat → Tag) (n : Nat) : Nat → Tag := fun j => if j < n then g j else .other
theorem clean_ext (g : Nat → Tag) (n : Nat) : Ext n g (clean g n) := fun j hj => if_pos hj
theorem clean_ext' (g : Nat → Tag) (n : Nat) : Ext n (clean g n) g := fun j hj => (if_pos hj).symm
theorem clean_new (g : Nat → Tag) (n : Nat) : ∀ j, n ≤ j → clean g n j = .other := fun j hj => if_neg (by omega)
theorem taskF_set (S : LS) (i j : Nat) (t : TS) (hi : i < S.tasks.length) : taskF (setT S i t) j = if j = i then t else taskF S j := by
  unfold taskF setT
  simp only [List.getD_eq_getElem?_getD, List.getElem?_set]
  by_cases h : i = j
  · subst h; simp [hi]
  · rw [if_neg h, if_neg (fun e => h e.symm)]
theorem taskF_own (S : LS) (i j : Nat) (hi : i < S.tasks.length) : taskF (ownF S i) j = if j = i then ownT S.clock (drawV S) (taskF S i) else taskF S j := taskF_set S i j _ hi
theorem ownT_wait (cl dv : Int) (t : TS) : (ownT cl dv t).wait = t.wait := by unfold ownT; split <;> rfl
theorem waitsF_set (S : LS) (i : Nat) (t : TS) (hi : i < S.tasks.length) (h : t.wait = (taskF S i).wait) : waitsF (setT S i t) = waitsF S := by
  unfold waitsF setT
  apply List.ext_getElem?
  intro j
  simp only [List.getElem?_map, List.getElem?_set]
  by_cases e : i = j
  · subst e
    rw [if_pos rfl, if_pos hi]
    have : S.tasks[i]? = some (taskF S i) := by unfold taskF; simp [List.getD_eq_getElem?_getD, hi]
    rw [this]
    simp [h]
  · rw [if_neg e]
theorem waitsF_own (S : LS) (i : Nat) (hi : i < S.tasks.length) : waitsF (ownF S i) = waitsF S := waitsF_set S i _ hi (ownT_wait _ _ _)
theorem LoopAt.own (h : LoopAt k w g p S A0 c0 A1 c1 A2 c2 At ct Aw cw e bs) {i : Nat} (hi : i < S.tasks.length) (he : Ext w.heap.size g g1) (ho : Only (TA k i) g w w1) (ha : ActIs k i w1 g1 (bs.getD i 0) (ownT S.clock (drawV S) (taskF S i)))
    (hE : w1.heap[e]? = some (.cells #[.int .u64 S.clock, .slice A2 S.draws.length c2, .int .i64 (S.drawn + drewT (taskF S i) : Nat)] 83 (0, 0))) : LoopAt k w1 g1 p (ownF S i) A0 c0 A1 c1 A2 c2 At ct Aw cw e bs := by
  have hl : (ownF S i).tasks.length = S.tasks.length := List.length_set
  refine ⟨?_, hE, h.l0, h.l1, h.l2, h.picks.move ho he (by unfold TA; simp), h.ticks.move ho he (by unfold TA; simp), h.draws.move ho he (by unfold TA; simp), ?_, ?_, fun j hj => ?_, (he p (blk_lt h.blk)).trans h.tag, (he e (blk_lt h.env)).trans h.etag⟩
  · have := ho.blk h.blk (by rw [h.tag]; unfold TA; simp)
    rw [hl]; exact this
  · rw [hl]; exact h.tasks.move rfl ho he (by unfold TA; simp)
  · rw [hl, waitsF_own S i hi]; exact h.waits.move rfl ho he (by unfold TA; simp)
  · rw [hl] at hj
    rw [taskF_own S i j hi]
    by_cases e_ : j = i
    · subst e_; rw [if_pos rfl]; exact ha
    · rw [if_neg e_]; exact (h.each j hj).move ho he (by unfold TA; simp) (by unfold TA; simp [e_]) (by unfold TA; simp [e_])
/-- The step of task i. -/
theorem actStep_calls (h : LoopAt k w g p S A0 c0 A1 c1 A2 c2 At ct Aw cw e bs) {B : Nat} (hG : Good B S) (hB : B ≤ 4611686018427387904) {i : Nat} (hi : i < S.tasks.length) :
    Calls Try.prog 26 #[.pointer (some ⟨bs.getD i 0, 0, none⟩), .pointer (some ⟨e, 0, none⟩)] w fun ev w' => ∃ vw g', ev = .returned (.agg #[.bool (doneF (taskF S i)), .int .i64 (waitF (taskF S i)), vw]) ∧ Kd.R (Kd.int .i64) 3 w' w.heap.size (fun _ => True) vw (wakesF (taskF S i)) ∧ (Ext w.heap.size g g' ∧ ∀ j, w.heap.size ≤ j → g' j = .other ∨ g' j = .told k i) ∧ Only (TA k i) g w w' ∧
      LoopAt k w' g' p (ownF S i) A0 c0 A1 c1 A2 c2 At ct Aw cw e bs := by
  have hmem : taskF S i ∈ S.tasks := by unfold taskF; simp [List.getD_eq_getElem?_getD, hi]
  obtain ⟨e1, e2, e3, _⟩ := hG.each _ hmem
  have hdr : S.drawn ≤ 4611686018427387904 := Nat.le_trans hG.drawn (Nat.le_trans hG.count hB)
  have h' := h.move (Only.refl (fun _ => False) g w) (clean_ext g w.heap.size) (fun h => h) (fun _ _ h => h)
  obtain ⟨A, c, v, ha⟩ := h'.each i hi
  by_cases hp : (taskF S i).pos < (taskF S i).acts.length
  · refine (actGo_calls ha hp e1 e3 h'.env h'.draws h'.etag hdr hG.draws (clean_new g _)).mono ?_
    rintro ev w' ⟨vw, g', rfl, hR, ⟨hX, hY⟩, hO, hA, hE⟩
    have hO' := hO.congr (clean_ext g _)
    have hX' := (clean_ext g w.heap.size).trans hX (Nat.le_refl _)
    exact ⟨vw, g', rfl, hR, ⟨hX', hY⟩, hO', h.own hi hX' hO' hA hE⟩
  · refine (actEnd_calls (e := e) ha (by omega)).mono ?_
    rintro ev w' ⟨rfl, hb⟩
    have hO' : Only (TA k i) g w w' := Only.of_below hb _ _
    have hX' := clean_ext g w.heap.size
    have hd : doneF (taskF S i) = true := by unfold doneF; simp; omega
    have hw : waitF (taskF S i) = 0 := by unfold waitF; rw [if_neg (fun hh => hp hh.1)]
    have hk : wakesF (taskF S i) = [] := by unfold wakesF; rw [if_neg (fun hh => hp hh.1)]
    have ht : ownT S.clock (drawV S) (taskF S i) = taskF S i := by unfold ownT; rw [if_neg hp]
    have hz : drewT (taskF S i) = 0 := by unfold drewT; rw [if_neg (fun hh => hp hh.1)]
    refine ⟨.slice none 0 0, clean g w.heap.size, by rw [hd, hw], by rw [hk]; exact Kd.R_nil _ _ _ _ _, ⟨hX', fun j hj => .inl (clean_new _ _ j hj)⟩, hO', h.own hi hX' hO' ?_ ?_⟩
    · rw [ht]; exact (h.each i hi).move (Only.of_below hb (fun _ => False) g) hX' (fun h => h) (fun h => h) (fun h => h)
    · rw [hz]; exact blk_below h.env hb
end
end Go.Proofs.Ytompgphlinjglaa.P
