/- Contract, proved by hand: merge.Cut, with the law for a range over merge.keys. -/
import Derived.Test.YtdibolblgchpdaaTP0
import Derived.Test.YtdibolblgchpdaaTC1
import Derived.RegionTactic
import Derived.WalkSpells
import Derived.Great.Walk
import Derived.RangeFuncNested
import Derived.RangeFuncBound
import Derived.RangeFuncCalls
import Derived.RangeFuncLeaves
import Derived.RangeFuncFrom
import Derived.Shelf.Abstract
import Derived.Shelf.RegionOpen
import Derived.WalkKit
import Derived.OwnWalkIn
import Derived.TacticsInMore
import Derived.LoopNIn
import Derived.LoopIn
import Derived.Sort.LoopGhostIn
import Derived.Sort.QuietIn
namespace Go.Proofs.Ytdibolblgchpdaa.P
open Go.RowKit Go.Proofs.YtdibolblgchpdaaW.PrintWords Go.Proofs.YtdibolblgchpdaaW.PrintLast Go.Proofs.YtdibolblgchpdaaW.PrintMore
set_option linter.unusedVariables false
set_option linter.unusedSimpArgs false
theorem blk_cell1 {W : World} {g t : Nat} {cs : Array Value} (h : W.heap[g]? = some (.cells cs t (0, 0))) (j : Nat) {v : Value} (hv : cs[j]? = some v) : W.cell? ⟨g, j, none⟩ = some v ∧ W.frozen? ⟨g, j, none⟩ = false := by
  unfold World.cell? World.frozen?
  constructor
  · simpa [h] using hv
  · simp [h]
/-! ### which head is less -/
def cmpOf (a b : S59) : Int :=
  if Lib.compareBytes a.f0.data.toList b.f0.data.toList ≠ 0 then Lib.compareBytes a.f0.data.toList b.f0.data.toList else if b.f1 < a.f1 then -1 else if b.f1 > a.f1 then 1 else 0
theorem compare_eq (k : Nat) (a b : S59) : merge_compare.f (k + 3) a.f0 a.f1 a.f2 a.f3 b.f0 b.f1 b.f2 b.f3 = some (cmpOf a b) := by
  have e : cmp_Compare_uint64.f b.f1 a.f1 = some (if b.f1 < a.f1 then -1 else if b.f1 > a.f1 then 1 else 0) := by
    unfold cmp_Compare_uint64.f cmp_isNaN_uint64.f
    simp only [bne_self_eq_false, Option.bind_some, Bool.false_eq_true, if_false]
    split
    · rfl
    · split <;> rfl
  unfold merge_compare.f strings_Compare.f cmpOf
  rw [Option.bind_some, e, Option.bind_some]
  generalize Lib.compareBytes a.f0.data.toList b.f0.data.toList = x
  generalize (if b.f1 < a.f1 then (-1 : Int) else if b.f1 > a.f1 then 1 else 0) = y
  have h1 : rd [x, y] 0 = x := rfl
  have h2 : rd [x, y] 1 = y := rfl
  have w1 : wrap64 1 = 1 := by unfold wrap64; omega
  have w2 : wrap64 2 = 2 := by unfold wrap64; omega
  unfold cmp_Or_int.f
  simp only [cmp_Or_int.l0, List.length_cons, List.length_nil]
  by_cases hx : x = 0
  · subst hx
    by_cases hy : y = 0
    · subst hy; simp [h1, h2, w1, w2]
    · simp [h1, h2, w1, w2, hy]
  · simp [h1, hx]
end Go.Proofs.Ytdibolblgchpdaa.P
namespace Go.Proofs.Ytdibolblgchpdaa.P
open Go.RowKit Go.Proofs.YtdibolblgchpdaaW.PrintWords Go.Proofs.YtdibolblgchpdaaW.PrintLast Go.Proofs.YtdibolblgchpdaaW.PrintMore
set_option linter.unusedVariables false
set_option linter.unusedSimpArgs false
theorem alloc_heap_new' (w : World) (o : Obj) : (w.alloc o).heap[w.heap.size]? = some o := by
  show (w.heap.push o)[w.heap.size]? = some o
  simp
end Go.Proofs.Ytdibolblgchpdaa.P
namespace Go.Proofs.Ytdibolblgchpdaa.P
open Go.RowKit Go.Proofs.YtdibolblgchpdaaW.PrintWords Go.Proofs.YtdibolblgchpdaaW.PrintLast Go.Proofs.YtdibolblgchpdaaW.PrintMore
set_option linter.unusedVariables false
set_option linter.unusedSimpArgs false
def sortedF : List S59 → Bool
  | a :: b :: l => decide (cmpOf a b < 0) && sortedF (b :: l)
  | _ => true
end Go.Proofs.Ytdibolblgchpdaa.P
namespace Go.Proofs.Ytdibolblgchpdaa.P
open Go.RowKit Go.Proofs.YtdibolblgchpdaaW.PrintWords Go.Proofs.YtdibolblgchpdaaW.PrintLast Go.Proofs.YtdibolblgchpdaaW.PrintMore
set_option linter.unusedVariables false
set_option linter.unusedSimpArgs false
theorem less_val (k : Nat) (a b : S59) : merge_Less.f (k + 3) a.f0 a.f1 a.f2 a.f3 b.f0 b.f1 b.f2 b.f3 = some (decide (cmpOf a b < 0)) := by
  unfold merge_Less.f
  rw [compare_eq, Option.bind_some]
theorem rd59_getElem (l : List S59) (i : Nat) (h : i < l.length) : rd_T59 l (i : Int) = l[i] := by
  simp only [rd_T59, Int.toNat_natCast, List.getD_eq_getElem?_getD, List.getElem?_eq_getElem h]
  rfl
theorem sorted_l0 (l : List S59) (hl : l.length ≤ 1152921504606846976) (d : Nat) : ∀ i : Nat, i + 1 ≤ l.length → l.length - (i + 1) = d →
    merge_Sorted.l0 (d + 4) l ((i + 1 : Nat) : Int) = some (sortedF (l.drop i)) := by
  induction d with
  | zero =>
    intro i hi hd
    have e : l.drop i = [l[i]'(by omega)] := by
      rw [List.drop_eq_getElem_cons (by omega), List.drop_eq_nil_of_le (by omega)]
    rw [e]
    simp only [merge_Sorted.l0]
    rw [if_neg (by omega)]
    rfl
  | succ d ih =>
    intro i hi hd
    have hi1 : i + 1 < l.length := by omega
    have w1 : wrap64 (((i + 1 : Nat) : Int) - 1) = (i : Int) := by unfold wrap64; omega
    have w2 : wrap64 (((i + 1 : Nat) : Int) + 1) = ((i + 1 + 1 : Nat) : Int) := by unfold wrap64; omega
    have c1 : ((i + 1 : Nat) : Int) < (l.length : Int) := by omega
    have c2 : (0 : Int) ≤ (i : Int) := by omega
    have c3 : (i : Int) < (l.length : Int) := by omega
    have c4 : (0 : Int) ≤ ((i + 1 : Nat) : Int) := by omega
    have e : l.drop i = l[i] :: l[i + 1] :: l.drop (i + 1 + 1) := by
      rw [List.drop_eq_getElem_cons (by omega), List.drop_eq_getElem_cons (by omega)]
    have e2 : l.drop (i + 1) = l[i + 1] :: l.drop (i + 1 + 1) := by rw [List.drop_eq_getElem_cons (by omega)]
    have hs : sortedF (l.drop i) = (decide (cmpOf l[i] l[i + 1] < 0) && sortedF (l.drop (i + 1))) := by rw [e, e2]; rfl
    rw [hs]
    simp only [merge_Sorted.l0]
    rw [w1, w2, if_pos c1, if_pos c2, if_pos c3, if_pos c4, rd59_getElem l i (by omega), rd59_getElem l (i + 1) hi1, less_val, Option.bind_some]
    by_cases hb : cmpOf l[i] l[i + 1] < 0
    · rw [decide_eq_true hb, if_pos rfl, Bool.true_and]
      exact ih (i + 1) (by omega) (by omega)
    · rw [decide_eq_false hb, if_neg (by decide), Bool.false_and]
theorem sorted_val (l : List S59) (hl : l.length ≤ 1152921504606846976) : merge_Sorted.f (l.length + 4) l = some (sortedF l) := by
  unfold merge_Sorted.f
  cases h : l with
  | nil =>
    simp only [merge_Sorted.l0, List.length_nil]
    rw [if_neg (by omega)]
    rfl
  | cons a t =>
    have h1 := sorted_l0 (a :: t) (by rw [← h]; exact hl) t.length 0 (by simp) (by simp)
    have h2 := merge_Sorted.mono_l
    have key : merge_Sorted.l0 (t.length + 4 + 1) (a :: t) 1 = some (sortedF (a :: t)) := by
      have := merge_Sorted.mono (a :: t) (t.length + 4) (sortedF (a :: t)) (by unfold merge_Sorted.f; exact h1)
      exact this
    exact key
end Go.Proofs.Ytdibolblgchpdaa.P
namespace Go.Proofs.Ytdibolblgchpdaa.P
open Go.RowKit Go.Shelf Go.Proofs.YtdibolblgchpdaaW.PrintWords Go.Proofs.YtdibolblgchpdaaW.PrintLast Go.Proofs.YtdibolblgchpdaaW.PrintMore
set_option linter.unusedVariables false
set_option linter.unusedSimpArgs false
/-- The iterator's word: it asks N rounds, one behind the other; between two of them it may do to the world what Cl says. -/
def Asks (F : Fence) (n : Nat) (P : Program) (g : Nat) (lb : Array Value) (encs : Nat → Array Value) (N : Nat) (Hold : Nat → World → Prop) (Cl : Nat → World → World → Prop) : Prop :=
  ∀ (l : Nat) (J J' : Nat → World → Prop) (W : World), (∀ t W, J t W → Hold t W) → (∀ t W, J' t W → Hold t W) → (∀ t A B, J' t A → Cl t A B → J (t + 1) B) → (∀ t A m, J t A → J t (A.drewN m)) →
    (∀ t W, J t W → t < N → YieldAt F (n - 1) P l (encs t) W fun e W' => e = .returned (.bool true) ∧ J' t W') → J 0 W →
    CallsIn F n P g (#[.func (.yield l) #[] #[]] ++ lb) W fun e W' => (∃ v, e = .returned v) ∧ J N W'
/-- How the body is left: at its end alone. -/
def atEnd (J' : World → Prop) (W : World) : Exit → Act → World → Prop
  | .normal, _, W' => KeepsOthers W W' ∧ J' W'
  | _, _, _ => False
theorem rangeFunc_asks {P : Program} {F : Fence} {n : Nat} {g : Operand} {ps : Array Tmp} {assign body : Code} {Q : Exit → Act → World → Prop} {a : Act} {w : World} (hro : F.round = none) (h1 : 1 ≤ n) {gf : Nat} {lb : Array Value}
    (hg : a.eval g = .func (.func gf) #[] lb) (hFg : F.fn gf) (eg : ∀ args w, (callFunc gf args).run P w = .ok (.enter gf args) w) {encs : Nat → Array Value} {N : Nat} {Hold : Nat → World → Prop} {Cl : Nat → World → World → Prop}
    (hit : Asks F (n - 1) P gf lb encs N Hold Cl) (hps : ∀ t, (encs t).size = ps.size) (I I' : Nat → World → Prop) (hI : OwnFrom w.heap.size I) (hI' : OwnFrom w.heap.size I')
    (hh : ∀ t W, I t W → Hold t W) (hh' : ∀ t W, I' t W → Hold t W) (hcl : ∀ t A B, I' t A → Cl t A B → I (t + 1) B) (hclk : ∀ t A B k, Cl t A B → w.heap.size ≤ k → B.heap[k]? = A.heap[k]?) (hd : ∀ t A m, I t A → I t (A.drewN m))
    (h0 : I 0 w) (a₁ : Nat → Act)
    (hassign : ∀ (l t : Nat) (W : World) (K : Act → World → Prop), K (a₁ t) W → assign.wpIn (F.inRound l) (n - 1 - 1) P (Exit.then K (fun _ _ _ => False)) { tmps := (ps.zip (encs t)).foldl (fun t (p, v) => t.setIfInBounds p v) a.tmps, defers := [] } W)
    (hbody : ∀ (l t : Nat) (W : World), I t W → t < N → body.wpIn (F.inRound l) (n - 1 - 1) P (atEnd (I' t) W) (a₁ t) W)
    (hdone : ∀ (D : Nat) (W : World), w.heap.size ≤ D → I N W → W.heap[D]? = some (.deferred (some [])) → Q .normal { a with defers := { target := .collected D, args := #[] } :: a.defers } W) :
    (Code.rangeFunc g ps assign body).wpIn F n P Q a w := by
  refine wpIn_rangeFunc (fun fn hfn => ?_)
  rw [hro]
  obtain ⟨rc, hrc⟩ : ∃ rc : LoopState → Loop, rc = fun st => { state := st, pending := none, fn, tmps := a.tmps, params := ps, assign, body, defers := w.heap.size } := ⟨_, rfl⟩
  obtain ⟨V, hV⟩ : ∃ V, (w.alloc (.deferred (some []))).alloc (.loop (rc .ready)) = V := ⟨_, rfl⟩
  have hbk : V.heap[w.heap.size]? = some (.deferred (some [])) ∧ V.heap[w.heap.size + 1]? = some (.loop (rc .ready)) := by
    rw [← hV]
    refine ⟨(Below.heap_alloc _ _ _ (by simp)).trans (alloc_heap_new' w _), ?_⟩
    have h := alloc_heap_new' (w.alloc (.deferred (some []))) (.loop (rc .ready))
    rwa [World.size_alloc] at h
  refine ⟨w.heap.size + 1, [{ target := .collected w.heap.size, args := #[] }], V, { target := .fn (.func gf) lb, args := #[.func (.yield (w.heap.size + 1)) #[] #[]] }, V, gf, #[.func (.yield (w.heap.size + 1)) #[] #[]] ++ lb, V, ?_, ?_, ?_, ?_, fun _ => h1, ?_⟩
  · rw [← hV, hrc]
    exact run_enterLoop_outer _ _ _ _ _
  · simp only [resolve, hg]
    simp [go_sem]
  · intro f' hf'
    simp [Target.leads] at hf'
    subst hf'
    exact hFg
  · simp [invoke, go_sem, eg]
  · have hrest := hit (w.heap.size + 1)
      (fun t W => I t W ∧ W.heap[w.heap.size]? = some (.deferred (some [])) ∧ W.heap[w.heap.size + 1]? = some (.loop (rc .ready)))
      (fun t W => I' t W ∧ W.heap[w.heap.size]? = some (.deferred (some [])) ∧ W.heap[w.heap.size + 1]? = some (.loop (rc .ready))) V
      (fun t W h => hh t W h.1) (fun t W h => hh' t W h.1)
      (fun t A B h hc => ⟨hcl t A B h.1 hc, (hclk t A B _ hc (Nat.le_refl _)).trans h.2.1, (hclk t A B _ hc (by omega)).trans h.2.2⟩)
      (fun t A m h => ⟨hd t A m h.1, h.2.1, h.2.2⟩) ?_ ⟨?_, hbk⟩
    · refine hrest.mono ?_
      rintro e W2 ⟨⟨v, rfl⟩, hi, hk, hl⟩
      refine ⟨none, _, by have := run_endLoop (P := P) hl (by rw [hrc]; simp); rw [hrc] at this; exact this, hdone _ _ (Nat.le_refl _) (hI.putObj _ hi (by omega) hl rfl) ((World.putObj_heap_other (by omega)).trans hk)⟩
    · rintro t W ⟨hi, hk, hl⟩ ht
      have hlt : w.heap.size + 1 < W.heap.size := (Array.getElem?_eq_some_iff.1 hl).1
      have hy := run_yield (P := P) (args := encs t) hl (by rw [hrc]; exact hps t)
      rw [hrc] at hy
      refine ⟨fn, _, assign, body, hy, roundIn_of_wpIn hfn (hassign _ t W _ ⟨_, run_beginRound hl (by rw [hrc]), ?_⟩)⟩
      obtain ⟨W', hW'⟩ : ∃ W', W.putObj (w.heap.size + 1) (.loop { rc .ready with state := .busy }) = W' := ⟨_, rfl⟩
      have hl' : W'.heap[w.heap.size + 1]? = some (.loop { rc .ready with state := .busy }) := by rw [← hW']; exact World.putObj_heap_same hlt
      have hk' : W'.heap[w.heap.size]? = some (.deferred (some [])) := by rw [← hW']; exact (World.putObj_heap_other (by omega)).trans hk
      have hi' : I t W' := by rw [← hW']; exact hI.putObj _ hi (by omega) hl rfl
      rw [hW']
      refine wpIn_mono (hbody _ t W' hi' ht) ?_
      rintro e a3 W3 hp
      cases e with
      | normal =>
        obtain ⟨hko, hi3⟩ := hp
        have hl3 := hko.same _ _ hl' rfl
        have hr := run_endRound (P := P) none hl3
        rw [hrc] at hr
        refine ⟨_, _, hr, rfl, hI'.putObj _ hi3 (by omega) hl3 rfl, (World.putObj_heap_other (by omega)).trans (hko.same _ _ hk' rfl), ?_⟩
        rw [hrc]
        exact World.putObj_heap_same (Array.getElem?_eq_some_iff.1 hl3).1
      | ret => exact hp.elim
      | exit id => exact hp.elim
      | goto t => exact hp.elim
      | panic ch => exact hp.elim
      | outgrown => exact hp.elim
    · rw [← hV]
      exact hI.alloc _ (hI.alloc _ h0)
end Go.Proofs.Ytdibolblgchpdaa.P
namespace Go.Proofs.Ytdibolblgchpdaa.P
open Go.RowKit Go.Shelf Go.Proofs.YtdibolblgchpdaaW.PrintWords Go.Proofs.YtdibolblgchpdaaW.PrintLast Go.Proofs.YtdibolblgchpdaaW.PrintMore
attribute [local go_sem] Oper.semAt_some
set_option linter.unusedVariables false
set_option linter.unusedSimpArgs false
/-- How many cells of the first key there are. -/
def runLen : List S59 → Nat
  | [] => 0
  | a :: l => 1 + (l.takeWhile fun x => decide (x.f0.toList = a.f0.toList)).length
theorem runLen_le : ∀ l : List S59, runLen l ≤ l.length
  | [] => Nat.le_refl _
  | a :: l => by
    unfold runLen
    have := (List.takeWhile_sublist (fun x : S59 => decide (x.f0.toList = a.f0.toList)) (l := l)).length_le
    simp only [List.length_cons]
    omega
theorem tw_spec (p : S59 → Bool) : ∀ (l : List S59) (m : Nat), m ≤ (l.takeWhile p).length → (h : m < l.length) → (p l[m] = true ↔ m < (l.takeWhile p).length)
  | [], m, _, h => absurd h (Nat.not_lt_zero _)
  | a :: l, m, hm, h => by
    by_cases ha : p a = true
    · rw [List.takeWhile_cons_of_pos ha] at hm ⊢
      cases m with
      | zero => simp [ha]
      | succ m =>
        have := tw_spec p l m (by simpa using hm) (by simpa using h)
        simpa using this
    · rw [List.takeWhile_cons_of_neg ha] at hm ⊢
      have hm0 : m = 0 := by simpa using hm
      subst hm0
      simp [ha]
/-- One cell more of the first key. -/
theorem run_spec (x : S59) (l : List S59) (m : Nat) (hm : m + 1 ≤ runLen (x :: l)) (h : m < l.length) : (rd_T59 (x :: l) ((m + 1 : Nat) : Int)).f0.toList = x.f0.toList ↔ m + 1 < runLen (x :: l) := by
  have e : rd_T59 (x :: l) ((m + 1 : Nat) : Int) = l[m] := by rw [rd59_getElem (x :: l) (m + 1) (by simpa using h)]; rfl
  have hr : runLen (x :: l) = 1 + (l.takeWhile fun y => decide (y.f0.toList = x.f0.toList)).length := rfl
  have this := tw_spec (fun y => decide (y.f0.toList = x.f0.toList)) l m
  rw [hr] at hm ⊢
  rw [e]
  generalize (l.takeWhile fun y => decide (y.f0.toList = x.f0.toList)).length = T at this hm ⊢
  have t2 := this (by omega) h
  rw [decide_eq_true_iff] at t2
  rw [t2]
  omega
theorem runLen_pos (x : S59) (l : List S59) : 0 + 1 ≤ runLen (x :: l) := by
  have hr : runLen (x :: l) = 1 + (l.takeWhile fun y => decide (y.f0.toList = x.f0.toList)).length := rfl
  rw [hr]
  omega
structure Raw where
  A : Option Addr
  c : Nat
  l : List S59
def Raw.next (r : Raw) : Raw := ⟨if r.c = runLen r.l then r.A else r.A.map (·.add (runLen r.l * 4)), r.c - runLen r.l, r.l.drop (runLen r.l)⟩
def Raw.at (r : Raw) : Nat → Raw
  | 0 => r
  | t + 1 => (r.at t).next
def Raw.val (r : Raw) : Value := .slice r.A r.l.length r.c
def HoldK (B : Nat) (r : Raw) (t : Nat) (W : World) : Prop :=
  W.cell? ⟨B, 0, none⟩ = some (r.at t).val ∧ W.frozen? ⟨B, 0, none⟩ = false ∧ Kd.C k59 W (r.at t).A (r.at t).l.length (r.at t).l ∧ (r.at t).l.length ≤ (r.at t).c
def ClK (B : Nat) (r : Raw) (t : Nat) (A W : World) : Prop := ∃ m, W = (A.drewN m).setCell ⟨B, 0, none⟩ (r.at (t + 1)).val
set_option maxRecDepth 100000 in
set_option maxHeartbeats 4000000 in
theorem keys_in (n : Nat) (hn : 1 ≤ n) (B : Nat) (r : Raw) (N : Nat) (hend : (r.at N).l = []) (hgo : ∀ t, t < N → (r.at t).l ≠ []) :
    Asks Fence.wide n Try.prog 66 #[.pointer (some ⟨B, 0, none⟩)] (fun t => #[.slice (r.at t).A (runLen (r.at t).l) (runLen (r.at t).l)]) N (HoldK B r) (ClK B r) := by
  intro l J J' W hJ hJ' hcl hd hY h0
  refine callsIn_of_wp Try.func66 rfl trivial ?_ rfl
  simp only [Try.ntmps66, List.size_toArray, List.length_cons, List.length_nil, Nat.reduceAdd, Nat.reduceSub, Array.replicate_succ, Array.replicate_zero, List.push_toArray, List.append_toArray, List.nil_append, List.cons_append]
  gi_wp2
  have HJ0 := Aside0.mk h0
  clear h0
  gi_loopg [3] N (fun kq v3 w' => ∃ t : Nat, t ≤ N ∧ Aside0 (kq = N - t) ∧ Aside0 (J t w'))
  case atStart => exact ⟨0, Nat.zero_le _, ⟨rfl⟩, HJ0⟩
  case round =>
    obtain ⟨t, ht, HK, HJ⟩ := hrel
    obtain ⟨hc, hf, hC, hcap⟩ := hJ t _ HJ.out
    obtain ⟨rt, hrt⟩ : ∃ rt, r.at t = rt := ⟨_, rfl⟩
    rw [hrt] at hc hC hcap
    have HRT := Aside0.mk hrt
    obtain ⟨A, c, l'⟩ := rt
    have hc' : wr.cell? ⟨B, 0, none⟩ = some (.slice A l'.length c) := hc
    clear hc hrt
    by_cases hlt : t < N
    · cases l' with
      | nil => exact absurd (by rw [HRT.out]) (hgo t hlt)
      | cons x l' =>
        gi_wp2
        gi_loopg [3] (runLen (x :: l')) (fun kq v3 w' => ∃ m : Nat, v3 = .int .i64 ((m + 1 : Nat) : Int) ∧ m + 1 ≤ runLen (x :: l') ∧ Aside0 (kq = runLen (x :: l') - m) ∧ Aside0 (J t w'))
        case atStart => exact ⟨0, rfl, runLen_pos x l', ⟨rfl⟩, HJ⟩
        case round =>
          obtain ⟨m, rfl, hm, HKM, HJM⟩ := hrel
          obtain ⟨hc, hf, hC, hcap⟩ := hJ t _ HJM.out
          rw [HRT.out] at hc hC hcap
          have hrl := runLen_le (x :: l')
          have hlen := hC.2.1
          obtain ⟨ad, ea, k0, k1, k2, k3⟩ := at_T59 hC 0 (Int.le_refl 0) (by show (0 : Int) < ((x :: l').length : Int); simp)
          have ea' : A = some ad := ea
          subst ea'
          have ez : ad.add ((0 : Int).toNat * 4) = ad := by simp [Addr.add]
          rw [ez] at k0
          have kx : rd_T59 (x :: l') 0 = x := rfl
          have k0' : wr.cell? ad = some (.string x.f0) := k0
          have hc2 : wr.cell? ⟨B, 0, none⟩ = some (.slice (some ad) (x :: l').length c) := hc
          clear hc k0 hc'
          by_cases hml : m + 1 < (x :: l').length
          · obtain ⟨ad2, ea2, j0, j1, j2, j3⟩ := at_T59 hC ((m + 1 : Nat) : Int) (Int.natCast_nonneg _) (by show ((m + 1 : Nat) : Int) < ((x :: l').length : Int); omega)
            have ea3 : ad = ad2 := by injection ea2
            subst ea3
            rw [Int.toNat_natCast] at j0
            have q1 : ((m : Int) + 1 < (x :: l').length) = True := eq_true (by omega)
            have q2 : (((m + 1 : Nat) : Int) < ((x :: l').length : Int)) = True := eq_true (by omega)
            have q3 : decide (((m + 1 : Nat) : Int) < ((x :: l').length : Int)) = true := decide_eq_true (by omega)
            have hlp : (0 : Int) < ((x :: l').length : Int) := by simp
            generalize hLL : (x :: l').length = LL at hc2 q1 q2 q3 hlp hml hrl hlen
            gi_wp2
            gi_quiet (fail)
            have HJW := Aside0.mk (hd t _ nq HJM.out)
            generalize wr.drewN nq = w2 at HJW ⊢
            by_cases hk : (rd_T59 (x :: l') ((m + 1 : Nat) : Int)).f0.toList = x.f0.toList
            · have hm2 := (run_spec x l' m hm (by have := hLL; simp at this; omega)).1 hk
              have hb1 : ((rd_T59 (x :: l') ((m : Int) + 1)).f0.toList == x.f0.toList) = true := by rw [show (m : Int) + 1 = ((m + 1 : Nat) : Int) by omega]; exact beq_iff_eq.2 hk
              rw [hb1]
              gi_wp2
              gi_roundg (runLen (x :: l') - (m + 1))
              case measure => have := HKM.out; omega
              case rel => exact ⟨m + 1, by first | rfl | (congr 1; omega), by omega, ⟨rfl⟩, HJW⟩
            · have hrm : runLen (x :: l') = m + 1 := by
                have h_ := (run_spec x l' m hm (by have := hLL; simp at this; omega))
                have : ¬ (m + 1 < runLen (x :: l')) := fun h2 => hk (h_.2 h2)
                omega
              have hb1 : ((rd_T59 (x :: l') ((m : Int) + 1)).f0.toList == x.f0.toList) = false := by rw [show (m : Int) + 1 = ((m + 1 : Nat) : Int) by omega]; exact beq_false_of_ne hk
              rw [hb1]
              have hmc : (m : Int) + 1 ≤ (c : Int) := by have h_ : (x :: l').length ≤ c := hcap; omega
              have hmc' : m + 1 ≤ c := by have h_ : (x :: l').length ≤ c := hcap; omega
              obtain ⟨fn, tmps, assign, body, hy, hR⟩ := hY t _ HJW.out hlt
              rw [HRT.out] at hy
              have hrun : runLen (Raw.mk (some ad) c (x :: l')).l = m + 1 := hrm
              rw [hrun] at hy
              have hw0 := (hJ t _ HJW.out).1
              rw [HRT.out] at hw0
              have hw : w2.cell? ⟨B, 0, none⟩ = some (.slice (some ad) (x :: l').length c) := hw0
              rw [hLL] at hw
              clear hw0
              gi_wp2
              refine hR.mono ?_
              rintro e W3 ⟨rfl, hJ3⟩
              obtain ⟨h3c, h3f, h3C, h3cap⟩ := hJ' t _ hJ3
              rw [HRT.out] at h3c
              have h3 : W3.cell? ⟨B, 0, none⟩ = some (.slice (some ad) (x :: l').length c) := h3c
              rw [hLL] at h3
              clear h3c
              have HJ3 := Aside0.mk hJ3
              clear hJ3 hw hc2
              have hle : (m : Int) + 1 ≤ (LL : Int) := by omega
              gi_wp2
              gi_roundg (N - (t + 1))
              case measure => have := HK.out; omega
              case rel =>
                refine ⟨t + 1, by omega, ⟨rfl⟩, ⟨hcl t W3 _ HJ3.out ⟨0, ?_⟩⟩⟩
                have e : (r.at (t + 1)) = (r.at t).next := rfl
                rw [e, HRT.out]
                show _ = W3.setCell ⟨B, 0, none⟩ (.slice (if c = runLen (x :: l') then some ad else (some ad).map (·.add (runLen (x :: l') * 4))) ((x :: l').drop (runLen (x :: l'))).length (c - runLen (x :: l')))
                rw [hrm, List.length_drop, hLL, if_neg (by have h_ : (x :: l').length ≤ c := hcap; omega)]
                rfl
          · have hrm : runLen (x :: l') = m + 1 := by omega
            have hLL : (x :: l').length = m + 1 := by omega
            rw [hLL] at hc2
            gi_wp2
            gi_quiet (fail)
            have HJW := Aside0.mk (hd t _ nq HJM.out)
            generalize wr.drewN nq = w2 at HJW ⊢
            have hmc : (m : Int) + 1 ≤ (c : Int) := by have h_ : (x :: l').length ≤ c := hcap; omega
            have hmc' : m + 1 ≤ c := by have h_ : (x :: l').length ≤ c := hcap; omega
            obtain ⟨fn, tmps, assign, body, hy, hR⟩ := hY t _ HJW.out hlt
            rw [HRT.out] at hy
            have hrun : runLen (Raw.mk (some ad) c (x :: l')).l = m + 1 := hrm
            rw [hrun] at hy
            have hw0 := (hJ t _ HJW.out).1
            rw [HRT.out] at hw0
            have hw : w2.cell? ⟨B, 0, none⟩ = some (.slice (some ad) (x :: l').length c) := hw0
            rw [hLL] at hw
            clear hw0
            gi_wp2
            refine hR.mono ?_
            rintro e W3 ⟨rfl, hJ3⟩
            obtain ⟨h3c, h3f, h3C, h3cap⟩ := hJ' t _ hJ3
            rw [HRT.out] at h3c
            have h3 : W3.cell? ⟨B, 0, none⟩ = some (.slice (some ad) (x :: l').length c) := h3c
            rw [hLL] at h3
            clear h3c
            have HJ3 := Aside0.mk hJ3
            clear hJ3 hw hc2
            skip
            by_cases hcm : c = m + 1
            · have hcm1 : (c = m + 1) = True := eq_true hcm
              gi_wp2
              gi_roundg (N - (t + 1))
              case measure => have := HK.out; omega
              case rel =>
                refine ⟨t + 1, by omega, ⟨rfl⟩, ⟨hcl t W3 _ HJ3.out ⟨0, ?_⟩⟩⟩
                have e : (r.at (t + 1)) = (r.at t).next := rfl
                rw [e, HRT.out]
                show _ = W3.setCell ⟨B, 0, none⟩ (.slice (if c = runLen (x :: l') then some ad else (some ad).map (·.add (runLen (x :: l') * 4))) ((x :: l').drop (runLen (x :: l'))).length (c - runLen (x :: l')))
                rw [hrm, List.length_drop, hLL, if_pos hcm]
                rw [Nat.sub_self, show c - (m + 1) = 0 by omega]
            · have hcm1 : (c = m + 1) = False := eq_false hcm
              gi_wp2
              gi_roundg (N - (t + 1))
              case measure => have := HK.out; omega
              case rel =>
                refine ⟨t + 1, by omega, ⟨rfl⟩, ⟨hcl t W3 _ HJ3.out ⟨0, ?_⟩⟩⟩
                have e : (r.at (t + 1)) = (r.at t).next := rfl
                rw [e, HRT.out]
                show _ = W3.setCell ⟨B, 0, none⟩ (.slice (if c = runLen (x :: l') then some ad else (some ad).map (·.add (runLen (x :: l') * 4))) ((x :: l').drop (runLen (x :: l'))).length (c - runLen (x :: l')))
                rw [hrm, List.length_drop, hLL, if_neg hcm]
                rw [Nat.sub_self]
                rfl
    · obtain rfl : t = N := by omega
      have hl : l' = [] := by have := hend; rw [HRT.out] at this; exact this
      subst hl
      gi_wp2
      go_end0
      exact ⟨⟨_, rfl⟩, HJ.out⟩
end Go.Proofs.Ytdibolblgchpdaa.P
namespace Go.Proofs.Ytdibolblgchpdaa.P
open Go.RowKit Go.Shelf Go.Proofs.YtdibolblgchpdaaW.PrintWords Go.Proofs.YtdibolblgchpdaaW.PrintLast Go.Proofs.YtdibolblgchpdaaW.PrintMore
set_option linter.unusedVariables false
set_option linter.unusedSimpArgs false
set_option maxRecDepth 100000 in
set_option maxHeartbeats 2000000 in
theorem keys_calls (A : Option Addr) (n c : Nat) (w : World) :
    Calls Try.prog 59 #[.slice A n c] w fun e w' => e = .returned (.func (.func 66) #[] #[.pointer (some ⟨w.heap.size, 0, none⟩)]) ∧ w' = w.alloc (.cells #[.slice A n c] 54) := by
  go_enter Try.func59, Try.ntmps59
  go_wp2
  go_ret
  exact ⟨rfl, rfl⟩
end Go.Proofs.Ytdibolblgchpdaa.P
namespace Go.Proofs.Ytdibolblgchpdaa.P
open Go.RowKit Go.Shelf Go.Proofs.YtdibolblgchpdaaW.PrintWords Go.Proofs.YtdibolblgchpdaaW.PrintLast Go.Proofs.YtdibolblgchpdaaW.PrintMore
set_option linter.unusedVariables false
set_option linter.unusedSimpArgs false
section
variable {P : Program} {ops : Array Oper} {rest : List Oper} {o : Oper} {a : Act} {W : World} {Kc : Act → World → Prop} {F : Fence} {n : Nat}
/-- append is carried out inside a fence, in a round too, as everywhere. -/
theorem oper_in_append (Q : Exit → Act → World → Prop) {s x : Operand} {t t' : TypeId} (ho : o.op = .call { callee := .builtin .append, args := #[s, x], argTypes := #[t, t'] })
    (h : Oper.wp P o a W Kc (fun _ _ _ => False)) : Oper.wpIn F n P o a W Kc Q := by
  have hs : o.semAt F.round a.eval = execOp a.eval o := Oper.semAt_plain F a.eval o (fun c hc => by rw [ho] at hc; cases hc)
  have ha : o.about P W a.eval = none := by simp [Oper.about, ho, resolve, Sem.run_pure, Target.leads]
  refine ⟨fun f hf => (by rw [ha] at hf; cases hf), ?_⟩
  rw [hs]
  unfold Oper.wp at h
  have e : ∃ m : Sem Value, execOp a.eval o = m >>= fun v => pure (.value v) := by
    refine ⟨Builtin.append_ #[t, t'] o.type #[a.eval s, a.eval x], ?_⟩
    simp [execOp, ho, resolve, invoke, builtin]
  obtain ⟨m, e⟩ := e
  rw [e] at h ⊢
  simp only [Sem.run_bind] at h ⊢
  cases hm : m.run P W with
  | ok v w' =>
    rw [hm] at h
    simp only [Result.andThen, Sem.run_pure] at h ⊢
    exact h
  | halt x w' =>
    rw [hm] at h
    simp only [Result.andThen] at h
    cases x <;> exact h.elim
theorem append_rows_opIn {α : Type} (d : Kd α) {Rr : α → List Value → Prop} {w0 : World} (base : Nat) (Q : Exit → Act → World → Prop) (hgd : o.guard = none) (s x : Operand) (t e : TypeId) (z : Value) (bytes : Nat)
    (ho : o.op = .call { callee := .builtin .append, args := #[s, x], argTypes := #[t, t] })
    (ht : P.underlying t = some (.slice e)) (hinfo : (P.info? e).map (fun i => (i.zero, i.size, i.bytes)) = some (some z, d.sz, bytes)) (hz : z.cells.size = d.sz) (hs0 : 0 < d.sz) (hb0 : 0 < bytes)
    (v : Value) (xs ys : List α) (A : Option Addr) (m c : Nat) (ok okp : Nat → Prop) (hs : a.eval s = v) (hx : a.eval x = .slice A m c)
    (HO : d.R e W base ok v xs) (HR : ReadsRow Rr d.sz W A m ys) (hKM : ∀ x cs, Rr x cs → d.M W base okp x cs) (hokp : ∀ k, okp k → ok k ∧ some k ≠ v.ownBlock) (hfresh : ∀ k, W.heap.size ≤ k → ok k)
    (HB : Below base w0 W) (hbase : base ≤ W.heap.size) (hl : (xs.length + m) * bytes ≤ 140737488355328)
    (h : ∀ v1 w1, d.R e w1 base ok v1 (xs ++ ys) → Below base w0 w1 → W.grownBy w1 v.ownBlock → (v1.ownBlock = v.ownBlock ∨ ∃ b, v1.ownBlock = some b ∧ W.heap.size ≤ b) → Kc (a.put o.dst v1) w1) :
    Oper.wpIn F n P o a W Kc Q := by
  refine oper_in_append Q ho ?_
  have hw : Region.wanted o (yielded #[] a.tmps) = true := by simp [Region.wanted, hgd]
  have := Kd.R_append_rows_step (Q := fun _ _ _ => False) (ops := #[]) d base hw s x t e z bytes ho ht hinfo hz hs0 hb0 v xs ys A m c ok okp hs hx HO HR hKM hokp hfresh HB hbase hl h
  rwa [if_pos hw] at this
theorem append_rows_in {α : Type} (d : Kd α) {Rr : α → List Value → Prop} {w0 : World} (base : Nat) {Q : Exit → Act → World → Prop} (hgd : o.guard = none) (s x : Operand) (t e : TypeId) (z : Value) (bytes : Nat)
    (ho : o.op = .call { callee := .builtin .append, args := #[s, x], argTypes := #[t, t] })
    (ht : P.underlying t = some (.slice e)) (hinfo : (P.info? e).map (fun i => (i.zero, i.size, i.bytes)) = some (some z, d.sz, bytes)) (hz : z.cells.size = d.sz) (hs0 : 0 < d.sz) (hb0 : 0 < bytes)
    (v : Value) (xs ys : List α) (A : Option Addr) (m c : Nat) (ok okp : Nat → Prop) (hs : a.eval s = v) (hx : a.eval x = .slice A m c)
    (HO : d.R e W base ok v xs) (HR : ReadsRow Rr d.sz W A m ys) (hKM : ∀ x cs, Rr x cs → d.M W base okp x cs) (hokp : ∀ k, okp k → ok k ∧ some k ≠ v.ownBlock) (hfresh : ∀ k, W.heap.size ≤ k → ok k)
    (HB : Below base w0 W) (hbase : base ≤ W.heap.size) (hl : (xs.length + m) * bytes ≤ 140737488355328)
    (h : ∀ v1 w1, d.R e w1 base ok v1 (xs ++ ys) → Below base w0 w1 → W.grownBy w1 v.ownBlock → (v1.ownBlock = v.ownBlock ∨ ∃ b, v1.ownBlock = some b ∧ W.heap.size ≤ b) → wpListIn F n P ops Q rest (a.put o.dst v1) w1) :
    wpListIn F n P ops Q (o :: rest) a W :=
  wpListIn_plain hgd fun K hK => append_rows_opIn d base Q hgd s x t e z bytes ho ht hinfo hz hs0 hb0 v xs ys A m c ok okp hs hx HO HR hKM hokp hfresh HB hbase hl (fun v1 w1 h1 h2 h3 h4 => hK _ _ (h v1 w1 h1 h2 h3 h4))
end
/-- What lies behind the first t keys. -/
def restAt (l : List S59) : Nat → List S59
  | 0 => l
  | t + 1 => (restAt l t).drop (runLen (restAt l t))
/-- The cells of the key behind the first t. -/
def grp (l : List S59) (t : Nat) : List S59 := (restAt l t).take (runLen (restAt l t))
theorem grp_length (l : List S59) (t : Nat) : (grp l t).length = runLen (restAt l t) := by
  unfold grp
  rw [List.length_take, Nat.min_eq_left (runLen_le _)]
theorem raw_l (r : Raw) (t : Nat) : (r.at t).l = restAt r.l t := by
  induction t with
  | zero => rfl
  | succ t ih => show ((r.at t).l).drop (runLen (r.at t).l) = _; rw [ih]; rfl
theorem raw_C {W : World} (r : Raw) (h : Kd.C k59 W r.A r.l.length r.l) (hc : r.l.length ≤ r.c) (t : Nat) : Kd.C k59 W (r.at t).A (r.at t).l.length (r.at t).l ∧ (r.at t).l.length ≤ (r.at t).c := by
  induction t with
  | zero => exact ⟨h, hc⟩
  | succ t ih =>
    obtain ⟨h1, h2⟩ := ih
    have hl := runLen_le (r.at t).l
    refine ⟨Kd.C_drop h1 hl h2, ?_⟩
    show ((r.at t).l.drop (runLen (r.at t).l)).length ≤ (r.at t).c - runLen (r.at t).l
    rw [List.length_drop]
    omega
theorem runLen_pos' {l : List S59} (h : l ≠ []) : 0 < runLen l := by
  cases l with
  | nil => exact absurd rfl h
  | cons a l => exact runLen_pos a l
theorem restAt_shift (l : List S59) (t : Nat) : restAt l (t + 1) = restAt (l.drop (runLen l)) t := by
  induction t with
  | zero => rfl
  | succ t ih => show (restAt l (t + 1)).drop (runLen (restAt l (t + 1))) = _; rw [ih]; rfl
theorem exists_N : ∀ (d : Nat) (l : List S59), l.length ≤ d → ∃ N, N ≤ l.length ∧ restAt l N = [] ∧ ∀ t, t < N → restAt l t ≠ []
  | d, [], _ => ⟨0, Nat.le_refl _, rfl, fun t ht => absurd ht (Nat.not_lt_zero _)⟩
  | 0, x :: l, h => by simp at h
  | d + 1, x :: l, h => by
    have hp := runLen_pos x l
    have hle := runLen_le (x :: l)
    obtain ⟨N, h1, h2, h3⟩ := exists_N d ((x :: l).drop (runLen (x :: l))) (by rw [List.length_drop]; omega)
    rw [List.length_drop] at h1
    refine ⟨N + 1, by omega, by rw [restAt_shift]; exact h2, fun t ht => ?_⟩
    cases t with
    | zero => simp [restAt]
    | succ t => rw [restAt_shift]; exact h3 t (by omega)
/-- A RANGE OVER merge.keys. S t: what the caller's own variables hold behind t rounds; S' t: behind the body of round t. -/
theorem range_keys {ps : Array Tmp} {assign body : Code} {Q : Exit → Act → World → Prop} {a : Act} {w : World} (n : Nat) (hn : 2 ≤ n) {g : Operand} (w0 : World) (A0 : Option Addr) (c0 : Nat) (l0 : List S59) (hC : Kd.C k59 w0 A0 l0.length l0) (hcap : l0.length ≤ c0)
    (B : Nat) (hB0 : w0.heap.size ≤ B) (hB : B < w.heap.size) (hg : a.eval g = .func (.func 66) #[] #[.pointer (some ⟨B, 0, none⟩)]) (hps : ps.size = 1) (N : Nat) (hend : restAt l0 N = []) (hgo : ∀ t, t < N → restAt l0 t ≠ [])
    (S S' : Nat → World → Prop) (hS : OwnFrom w.heap.size S) (hS' : OwnFrom w.heap.size S') (hnx : ∀ t W m v, S' t W → Below w0.heap.size w0 W → (W.heap[B]?).isSome → S (t + 1) ((W.drewN m).setCell ⟨B, 0, none⟩ v)) (hdr : ∀ t W m, S t W → S t (W.drewN m))
    (h0 : S 0 w) (hb0 : Below w0.heap.size w0 w) (hbox : w.heap[B]? = some (.cells #[.slice A0 l0.length c0] 54 (0, 0)))
    (a₁ : Nat → Option Addr → Act)
    (hassign : ∀ (l t : Nat) (Ag : Option Addr) (W : World) (K : Act → World → Prop), K (a₁ t Ag) W → assign.wpIn (Fence.wide.inRound l) (n - 1 - 1) Try.prog (Exit.then K (fun _ _ _ => False)) { tmps := (ps.zip #[.slice Ag (grp l0 t).length (grp l0 t).length]).foldl (fun t (p, v) => t.setIfInBounds p v) a.tmps, defers := [] } W)
    (hbody : ∀ (l t : Nat) (Ag : Option Addr) (W : World), t < N → Kd.C k59 w0 Ag (grp l0 t).length (grp l0 t) → Below w0.heap.size w0 W → w.heap.size ≤ W.heap.size → S t W → body.wpIn (Fence.wide.inRound l) (n - 1 - 1) Try.prog (fun e _ W' => e = .normal ∧ KeepsOthers W W' ∧ W'.heap[B]? = W.heap[B]? ∧ Below w0.heap.size w0 W' ∧ S' t W') (a₁ t Ag) W)
    (hdone : ∀ (D : Nat) (W : World), w.heap.size ≤ D → Below w0.heap.size w0 W → S N W → W.heap[D]? = some (.deferred (some [])) → Q .normal { a with defers := { target := .collected D, args := #[] } :: a.defers } W) :
    (Code.rangeFunc g ps assign body).wpIn Fence.wide n Try.prog Q a w := by
  obtain ⟨r, hr⟩ : ∃ r : Raw, r = ⟨A0, c0, l0⟩ := ⟨_, rfl⟩
  have hrl : r.l = l0 := by rw [hr]
  have hCr : ∀ t, Kd.C k59 w0 (r.at t).A (r.at t).l.length (r.at t).l ∧ (r.at t).l.length ≤ (r.at t).c := raw_C r (by rw [hr]; exact hC) (by rw [hr]; exact hcap)
  have hra : ∀ t, (r.at t).l = restAt l0 t := fun t => by rw [raw_l, hrl]
  have hit := keys_in (n - 1) (by omega) B r N (by rw [hra]; exact hend) (fun t ht => by rw [hra]; exact hgo t ht)
  have hen : (fun t => #[Value.slice (r.at t).A (runLen (r.at t).l) (runLen (r.at t).l)]) = fun t => #[Value.slice (r.at t).A (grp l0 t).length (grp l0 t).length] := by
    funext t
    rw [grp_length, hra]
  rw [hen] at hit
  have hcl : ∀ (W : World) (v : Value), W.heap[B]? = some (.cells #[v] 54 (0, 0)) → W.cell? ⟨B, 0, none⟩ = some v ∧ W.frozen? ⟨B, 0, none⟩ = false := fun W v h => blk_cell1 h 0 rfl
  refine rangeFunc_asks rfl (by omega) hg trivial (enters_of Try.func66 (by kernel_rfl) rfl) hit (fun t => by rw [hps]; rfl)
    (fun t W => S t W ∧ Below w0.heap.size w0 W ∧ W.heap[B]? = some (.cells #[(r.at t).val] 54 (0, 0)) ∧ w.heap.size ≤ W.heap.size)
    (fun t W => S' t W ∧ Below w0.heap.size w0 W ∧ W.heap[B]? = some (.cells #[(r.at t).val] 54 (0, 0)) ∧ w.heap.size ≤ W.heap.size)
    ?_ ?_ ?_ ?_ ?_ ?_ ?_ ?_ (fun t => a₁ t (r.at t).A) ?_ ?_ ?_
  · intro s W W' row hs hgr hrow
    refine ⟨hS s W W' row hs.1 hgr hrow, hs.2.1.grown hgr hs.2.1.size (fun k e => Nat.le_trans hb0.size (hrow k e).1), ?_, Nat.le_trans hs.2.2.2 hgr.size⟩
    exact (hgr.block B (by omega) (fun e => by have := (hrow B e.symm).1; omega)).trans hs.2.2.1
  · intro s W W' row hs hgr hrow
    refine ⟨hS' s W W' row hs.1 hgr hrow, hs.2.1.grown hgr hs.2.1.size (fun k e => Nat.le_trans hb0.size (hrow k e).1), ?_, Nat.le_trans hs.2.2.2 hgr.size⟩
    exact (hgr.block B (by omega) (fun e => by have := (hrow B e.symm).1; omega)).trans hs.2.2.1
  · intro t W h
    have := hcl W _ h.2.2.1
    exact ⟨this.1, this.2, Kd.C_below (hCr t).1 h.2.1, (hCr t).2⟩
  · intro t W h
    have := hcl W _ h.2.2.1
    exact ⟨this.1, this.2, Kd.C_below (hCr t).1 h.2.1, (hCr t).2⟩
  · rintro t X Y ⟨hs, hb, hbx, hsz⟩ ⟨m, rfl⟩
    refine ⟨hnx t X m _ hs hb (by rw [hbx]; rfl), (pw_below_drewN hb m).setCell (p := ⟨B, 0, none⟩) hB0 _, blk_set (show (X.drewN m).heap[B]? = _ from hbx) 0 _, by simpa using hsz⟩
  · rintro t X Y k ⟨m, rfl⟩ hk
    exact Below.heap_setCell (X.drewN m) ⟨B, 0, none⟩ _ k (by show k ≠ B; omega)
  · rintro t X m ⟨hs, hb, hbx, hsz⟩
    exact ⟨hdr t X m hs, pw_below_drewN hb m, hbx, hsz⟩
  · refine ⟨h0, hb0, ?_, Nat.le_refl _⟩
    rw [hbox, hr]
    rfl
  · intro l t W K hK
    exact hassign l t _ W K hK
  · rintro l t W ⟨hs, hb, hbx, hsz⟩ ht
    have hCg : Kd.C k59 w0 (r.at t).A (grp l0 t).length (grp l0 t) := by
      have h1 := (hCr t).1
      rw [hra t] at h1
      unfold grp
      exact Kd.C_take h1 (runLen_le _)
    refine wpIn_mono (hbody l t (r.at t).A W ht hCg hb hsz hs) ?_
    rintro e a' W' ⟨rfl, hko, hbb, hb', hs'⟩
    exact ⟨hko, hs', hb', hbb.trans hbx, Nat.le_trans hsz hko.size⟩
  · rintro D W hD ⟨hs, hb, _, _⟩ hK
    exact hdone D W hD hb hs hK
end Go.Proofs.Ytdibolblgchpdaa.P
namespace Go
open Go.RowKit
/-- The marks that ranges over functions leave among a frame's deferred calls. -/
def collMarks (Ds : List Nat) : List Deferred := Ds.map fun D => { target := .collected D, args := #[] }
/-- What the leaving of a frame does at these marks: blocks that are no cells are shut. -/
structure ShutMarks (Ds : List Nat) (W W' : World) : Prop where
  os : W'.os = W.os
  tape : W'.tape = W.tape
  output : W'.output = W.output
  size : W'.heap.size = W.heap.size
  block : ∀ k, k ∉ Ds → W'.heap[k]? = W.heap[k]?
theorem ShutMarks.below {Ds : List Nat} {W W' : World} (h : ShutMarks Ds W W') {B : Nat} (hD : ∀ D ∈ Ds, B ≤ D) : Below B W W' := ⟨h.os, h.tape, h.output, by rw [h.size]; exact Nat.le_refl _, fun k hk => h.block k (fun hm => by have := hD k hm; omega)⟩
theorem leavesMarks {F : Fence} {n : Nat} {P : Program} {fn : Func} {tmps : Array Value} {R : Ending → World → Prop} : ∀ (Ds : List Nat) (W : World), Ds.Nodup → (∀ D ∈ Ds, W.heap[D]? = some (.deferred (some []))) →
    (∀ W', ShutMarks Ds W W' → ∃ v, (results fn tmps).run P W' = .ok v W' ∧ R (.returned v) W') → LeavesInM F n P fn tmps R (collMarks Ds) .returning W
  | [], W, _, _, h => by
    obtain ⟨v, hv, hr⟩ := h W ⟨rfl, rfl, rfl, rfl, fun _ _ => rfl⟩
    exact ⟨v, hv, hr⟩
  | D :: Ds, W, hnd, hD, h => by
    have hK := hD D (by simp)
    have hnd' := List.nodup_cons.1 hnd
    refine ⟨by simp, .inl ⟨D, _, rfl, run_takeDeferred hK, ?_⟩⟩
    refine leavesMarks Ds _ hnd'.2 (fun D' hm => (World.putObj_heap_other (fun e => hnd'.1 (by subst e; exact hm))).trans (hD D' (by simp [hm]))) ?_
    intro W' hs
    refine h W' ⟨hs.os, hs.tape, hs.output, by rw [hs.size]; simp [World.putObj], fun k hk => ?_⟩
    rw [hs.block k (fun hm => hk (by simp [hm]))]
    exact World.putObj_heap_other (fun e => hk (by simp [e]))
end Go
namespace Go.Proofs.Ytdibolblgchpdaa.P
open Go.RowKit Go.Shelf Go.Proofs.YtdibolblgchpdaaW.PrintWords Go.Proofs.YtdibolblgchpdaaW.PrintLast Go.Proofs.YtdibolblgchpdaaW.PrintMore
attribute [local go_sem] Oper.semAt_some
set_option linter.unusedVariables false
set_option linter.unusedSimpArgs false
theorem keepsOthers_below {W W' : World} (h : Below W.heap.size W W') : KeepsOthers W W' := ⟨h.size, fun k o hk _ => (h.block k (Array.getElem?_eq_some_iff.1 hk).1).trans hk⟩
end Go.Proofs.Ytdibolblgchpdaa.P
namespace Go.Proofs.Ytdibolblgchpdaa.P
open Go.RowKit Go.Shelf Go.Proofs.YtdibolblgchpdaaW.PrintWords Go.Proofs.YtdibolblgchpdaaW.PrintLast Go.Proofs.YtdibolblgchpdaaW.PrintMore
attribute [local go_sem] Oper.semAt_some
set_option linter.unusedVariables false
set_option linter.unusedSimpArgs false
theorem append_S_in {P : Program} {ops : Array Oper} {rest : List Oper} {o : Oper} {a : Act} {W : World} {F : Fence} {n : Nat} {α : Type} (d : Kd α) {w0 : World} (base : Nat) {Q : Exit → Act → World → Prop} (hgd : o.guard = none) (s x : Operand) (t e : TypeId) (z : Value) (bytes : Nat)
    (ho : o.op = .call { callee := .builtin .append, args := #[s, x], argTypes := #[t, t] })
    (ht : P.underlying t = some (.slice e)) (hinfo : (P.info? e).map (fun i => (i.zero, i.size, i.bytes)) = some (some z, d.sz, bytes)) (hz : z.cells.size = d.sz) (hs0 : 0 < d.sz) (hb0 : 0 < bytes)
    (v : Value) (xs : List α) (p : α) (cs : List Value) (ok okp : Nat → Prop) (hs : a.eval s = v) (hx : a.eval x = .slice (some ⟨W.heap.size, 0, none⟩) 1 1) (hp : d.M W base okp p cs) (hokp : ∀ k, okp k → ok k ∧ some k ≠ v.ownBlock) (hfresh : ∀ k, W.heap.size ≤ k → ok k)
    (HO : Kd.S d e W base (fun k => ok k ∧ ¬ okp k) v xs) (HB : Below base w0 W) (hbase : base ≤ W.heap.size) (hl : (xs.length + 1) * bytes ≤ 140737488355328)
    (h : ∀ v1 w1, Kd.S d e w1 base ok v1 (xs ++ [p]) → Below base w0 w1 → W.grownBy w1 v.ownBlock → (v1.ownBlock = v.ownBlock ∨ ∃ b, v1.ownBlock = some b ∧ W.heap.size ≤ b) → wpListIn F n P ops Q rest (a.put o.dst v1) w1) :
    wpListIn F n P ops Q (o :: rest) a (W.alloc (.cells cs.toArray e)) := by
  refine wpListIn_plain hgd fun K hK => ?_
  refine oper_in_append Q ho ?_
  have hw : Region.wanted o (yielded #[] a.tmps) = true := by simp [Region.wanted, hgd]
  have := Kd.S_append_step (Q := fun _ _ _ => False) (ops := #[]) (Kc := K) d base hw s x t e z bytes ho ht hinfo hz hs0 hb0 v xs p cs ok okp hs hx hp hokp hfresh HO HB hbase hl (fun v1 w1 h1 h2 h3 h4 => hK _ _ (h v1 w1 h1 h2 h3 h4))
  rwa [if_pos hw] at this
/-- How many bytes cells take. -/
def gsize : List S59 → Nat
  | [] => 0
  | x :: l => x.f0.size + x.f2.size + 16 + gsize l
theorem gsize_append : ∀ a b : List S59, gsize (a ++ b) = gsize a + gsize b
  | [], b => by simp [gsize]
  | x :: a, b => by simp only [List.cons_append, gsize, gsize_append a b]; omega
def cutStep (size : Int) (st : List (List S59) × List S59) (g : List S59) : List (List S59) × List S59 :=
  if g = [] then st else if st.2 ≠ [] ∧ (gsize g : Int) > size - gsize st.2 then (st.1 ++ [st.2], g) else (st.1, st.2 ++ g)
def cutTo (size : Int) (l : List S59) : Nat → List (List S59) × List S59
  | 0 => ([], [])
  | t + 1 => cutStep size (cutTo size l t) (grp l t)
def cutF (size : Int) (l : List S59) : List (List S59) := if (cutTo size l l.length).2 = [] then (cutTo size l l.length).1 else (cutTo size l l.length).1 ++ [(cutTo size l l.length).2]
theorem cutTo_all (size : Int) (l : List S59) (t : Nat) : (cutTo size l t).1.flatten ++ (cutTo size l t).2 ++ restAt l t = l ∧ ∀ p ∈ (cutTo size l t).1, p ≠ [] := by
  induction t with
  | zero => simp [cutTo, restAt]
  | succ t ih =>
    obtain ⟨h1, h2⟩ := ih
    have hr : grp l t ++ restAt l (t + 1) = restAt l t := List.take_append_drop _ _
    show (cutStep size (cutTo size l t) (grp l t)).1.flatten ++ (cutStep size (cutTo size l t) (grp l t)).2 ++ restAt l (t + 1) = l ∧ ∀ p ∈ (cutStep size (cutTo size l t) (grp l t)).1, p ≠ []
    unfold cutStep
    by_cases hg : grp l t = []
    · rw [if_pos hg]
      rw [hg, List.nil_append] at hr
      rw [hr]
      exact ⟨h1, h2⟩
    · rw [if_neg hg]
      split
      · rename_i hc
        refine ⟨?_, ?_⟩
        · rw [List.flatten_append, List.flatten_cons, List.flatten_nil, List.append_nil, List.append_assoc _ (grp l t), hr]
          exact h1
        · intro p hp
          rcases List.mem_append.1 hp with hp | hp
          · exact h2 p hp
          · rw [List.mem_singleton.1 hp]; exact hc.1
      · refine ⟨?_, h2⟩
        rw [← List.append_assoc, List.append_assoc _ (grp l t), hr]
        exact h1
theorem flat_len : ∀ (L : List (List S59)), (∀ p ∈ L, p ≠ []) → L.length ≤ L.flatten.length
  | [], _ => Nat.le_refl _
  | p :: L, h => by
    have h1 := flat_len L (fun q hq => h q (List.mem_cons_of_mem _ hq))
    have h2 : 0 < p.length := List.length_pos_iff.2 (h p (by simp))
    rw [List.flatten_cons, List.length_append, List.length_cons]
    omega
theorem cutTo_bd (size : Int) (l : List S59) (t : Nat) : (cutTo size l t).1.length + (cutTo size l t).2.length + (grp l t).length ≤ l.length ∧ gsize (cutTo size l t).2 + gsize (grp l t) ≤ gsize l := by
  obtain ⟨h1, h2⟩ := cutTo_all size l t
  have h3 := flat_len _ h2
  have hr : grp l t ++ restAt l (t + 1) = restAt l t := List.take_append_drop _ _
  rw [← hr] at h1
  constructor
  · have := congrArg List.length h1
    simp only [List.length_append] at this
    omega
  · have := congrArg gsize h1
    simp only [gsize_append] at this
    omega
theorem cutTo_end (size : Int) (l : List S59) (N : Nat) (hN : restAt l N = []) : ∀ d, cutTo size l (N + d) = cutTo size l N ∧ restAt l (N + d) = [] := by
  intro d
  induction d with
  | zero => exact ⟨rfl, hN⟩
  | succ d ih =>
    obtain ⟨h1, h2⟩ := ih
    have hg : grp l (N + d) = [] := by unfold grp; rw [h2]; rfl
    refine ⟨?_, ?_⟩
    · show cutStep size (cutTo size l (N + d)) (grp l (N + d)) = _
      rw [hg, h1]
      unfold cutStep
      rw [if_pos rfl]
    · show (restAt l (N + d)).drop _ = []
      rw [h2]
      exact List.drop_nil
theorem cutF_eq (size : Int) (l : List S59) (N : Nat) (hle : N ≤ l.length) (hN : restAt l N = []) : cutF size l = if (cutTo size l N).2 = [] then (cutTo size l N).1 else (cutTo size l N).1 ++ [(cutTo size l N).2] := by
  have := (cutTo_end size l N hN (l.length - N)).1
  rw [show N + (l.length - N) = l.length by omega] at this
  unfold cutF
  rw [this]
/-- The variables 'out', 'now' and 'room', in memory. -/
structure CutM (w0 : World) (L B : Nat) (out : List (List S59)) (now : List S59) (room : Int) (Ao : Option Addr) (co : Nat) (An : Option Addr) (cn : Nat) (W : World) : Prop where
  bo : W.heap[B]? = some (.cells #[.slice Ao out.length co] 55 (0, 0))
  bn : W.heap[B + 1]? = some (.cells #[.slice An now.length cn] 54 (0, 0))
  br : W.heap[B + 2]? = some (.cells #[.int .i64 room] 3 (0, 0))
  S : Kd.S (Kd.slice 59 k59) 54 W w0.heap.size (fun k => L ≤ k ∧ some k ≠ (Value.slice An now.length cn).ownBlock) (.slice Ao out.length co) out
  R : Kd.R k59 59 W w0.heap.size (fun k => L ≤ k) (.slice An now.length cn) now
theorem CutM.move {w0 W W' : World} {L B : Nat} {out : List (List S59)} {now : List S59} {room : Int} {Ao An : Option Addr} {co cn : Nat} (h : CutM w0 L B out now room Ao co An cn W) (h1 : W'.heap[B]? = W.heap[B]?) (h2 : W'.heap[B + 1]? = W.heap[B + 1]?) (h3 : W'.heap[B + 2]? = W.heap[B + 2]?) (hm : ∀ k, L ≤ k → k < W.heap.size → (∃ cs t, W.heap[k]? = some (.cells cs t (0, 0))) → W'.heap[k]? = W.heap[k]?) : CutM w0 L B out now room Ao co An cn W' := by
  refine ⟨h1.trans h.bo, h2.trans h.bn, h3.trans h.br, ?_, ?_⟩
  · refine Kd.S_mono (Kd.S_move (Kd.S_bound h.S) (fun k hk => ?_)) (fun k hk => hk.1)
    obtain ⟨⟨h1, _⟩, _, h3, q, _, cs, hc⟩ := hk
    exact hm k h1 h3 ⟨cs, q, hc⟩
  · refine Kd.R_mono (Kd.R_move (Kd.R_bound h.R) (fun k hk => ?_)) (fun k hk => hk.1)
    obtain ⟨h1, _, h3, q, _, cs, hc⟩ := hk
    exact hm k h1 h3 ⟨cs, q, hc⟩
theorem CutM.below {w0 W W' : World} {L B : Nat} {out : List (List S59)} {now : List S59} {room : Int} {Ao An : Option Addr} {co cn : Nat} (h : CutM w0 L B out now room Ao co An cn W) (hb : Below W.heap.size W W') : CutM w0 L B out now room Ao co An cn W' :=
  h.move (hb.block _ (Array.getElem?_eq_some_iff.1 h.bo).1) (hb.block _ (Array.getElem?_eq_some_iff.1 h.bn).1) (hb.block _ (Array.getElem?_eq_some_iff.1 h.br).1) (fun k _ hk _ => hb.block k hk)
theorem CutM.set {w0 W : World} {L B : Nat} {out : List (List S59)} {now : List S59} {room : Int} {Ao An : Option Addr} {co cn : Nat} (h : CutM w0 L B out now room Ao co An cn W) {b : Nat} (hb : b < L) (n0 : b ≠ B) (n1 : b ≠ B + 1) (n2 : b ≠ B + 2) (v : Value) : CutM w0 L B out now room Ao co An cn (W.setCell ⟨b, 0, none⟩ v) :=
  h.move (Below.heap_setCell _ _ _ _ (fun e => n0 e.symm)) (Below.heap_setCell _ _ _ _ (fun e => n1 e.symm)) (Below.heap_setCell _ _ _ _ (fun e => n2 e.symm)) (fun k hk _ _ => Below.heap_setCell _ _ _ _ (by show k ≠ b; omega))
theorem CutM.room {w0 W : World} {L B : Nat} {out : List (List S59)} {now : List S59} {room : Int} {Ao An : Option Addr} {co cn : Nat} (h : CutM w0 L B out now room Ao co An cn W) (hL : B + 2 < L) (r : Int) : CutM w0 L B out now r Ao co An cn (W.setCell ⟨B + 2, 0, none⟩ (.int .i64 r)) := by
  have hk : ∀ k, L ≤ k → (W.setCell ⟨B + 2, 0, none⟩ (.int .i64 r)).heap[k]? = W.heap[k]? := fun k hk => Below.heap_setCell _ _ _ _ (by show k ≠ B + 2; omega)
  exact ⟨(Below.heap_setCell _ _ _ _ (by show B ≠ B + 2; omega)).trans h.bo, (Below.heap_setCell _ _ _ _ (by show B + 1 ≠ B + 2; omega)).trans h.bn, blk_set h.br 0 _, Kd.S_step h.S (fun k h1 _ => hk k h1.1), Kd.R_step h.R (fun k h1 _ => hk k h1)⟩
/-- now = nil, behind out = append(out, now). -/
theorem CutM.flush {w0 W w1 : World} {L B : Nat} {out : List (List S59)} {now : List S59} {room : Int} {Ao An : Option Addr} {co cn : Nat} (h : CutM w0 L B out now room Ao co An cn W) (hL : B + 2 < L) {A2 : Option Addr} {c2 : Nat}
    (hs : Kd.S (Kd.slice 59 k59) 54 w1 w0.heap.size (fun k => L ≤ k) (.slice A2 (out ++ [now]).length c2) (out ++ [now])) (hg : W.grownBy w1 (Value.slice Ao out.length co).ownBlock) :
    CutM w0 L B (out ++ [now]) [] room A2 c2 none 0 ((w1.setCell ⟨B, 0, none⟩ (.slice A2 (out ++ [now]).length c2)).setCell ⟨B + 1, 0, none⟩ (.slice none 0 0)) := by
  have hnr : ∀ k, k < L → some k ≠ (Value.slice Ao out.length co).ownBlock := fun k hk e => by have := ((Kd.S_R h.S).1 k e.symm).1; omega
  have ho : w1.heap[B]? = W.heap[B]? := hg.block _ (Array.getElem?_eq_some_iff.1 h.bo).1 (hnr _ (by omega))
  have hn : w1.heap[B + 1]? = W.heap[B + 1]? := hg.block _ (Array.getElem?_eq_some_iff.1 h.bn).1 (hnr _ (by omega))
  have hr : w1.heap[B + 2]? = W.heap[B + 2]? := hg.block _ (Array.getElem?_eq_some_iff.1 h.br).1 (hnr _ (by omega))
  refine ⟨?_, ?_, ?_, ?_, Kd.R_nil _ _ _ _ _⟩
  · exact (Below.heap_setCell _ _ _ _ (by show B ≠ B + 1; omega)).trans (blk_set (ho.trans h.bo) 0 _)
  · exact blk_set ((Below.heap_setCell _ _ _ _ (by show B + 1 ≠ B; omega)).trans (hn.trans h.bn)) 0 _
  · exact (Below.heap_setCell _ _ _ _ (by show B + 2 ≠ B + 1; omega)).trans ((Below.heap_setCell _ _ _ _ (by show B + 2 ≠ B; omega)).trans (hr.trans h.br))
  · refine Kd.S_mono (Kd.S_step hs (fun k hk _ => (Below.heap_setCell _ _ _ _ (by show k ≠ B + 1; omega)).trans (Below.heap_setCell _ _ _ _ (by show k ≠ B; omega)))) (fun k hk => ⟨hk, by simp [Value.ownBlock]⟩)
/-- now = append(now, ..). -/
theorem CutM.grow {w0 W w1 : World} {L B : Nat} {out : List (List S59)} {now : List S59} {room : Int} {Ao An : Option Addr} {co cn : Nat} (h : CutM w0 L B out now room Ao co An cn W) (hL : B + 2 < L) {ys : List S59} {A2 : Option Addr} {c2 : Nat}
    (hr : Kd.R k59 59 w1 w0.heap.size (fun k => L ≤ k) (.slice A2 ys.length c2) ys) (hg : W.grownBy w1 (Value.slice An now.length cn).ownBlock)
    (hat : (Value.slice A2 ys.length c2).ownBlock = (Value.slice An now.length cn).ownBlock ∨ ∃ b, (Value.slice A2 ys.length c2).ownBlock = some b ∧ W.heap.size ≤ b) :
    CutM w0 L B out ys room Ao co A2 c2 (w1.setCell ⟨B + 1, 0, none⟩ (.slice A2 ys.length c2)) := by
  have hnr : ∀ k, k < L → some k ≠ (Value.slice An now.length cn).ownBlock := fun k hk e => by have := h.R.1 k e.symm; omega
  have ho : w1.heap[B]? = W.heap[B]? := hg.block _ (Array.getElem?_eq_some_iff.1 h.bo).1 (hnr _ (by omega))
  have hn : w1.heap[B + 1]? = W.heap[B + 1]? := hg.block _ (Array.getElem?_eq_some_iff.1 h.bn).1 (hnr _ (by omega))
  have hrr : w1.heap[B + 2]? = W.heap[B + 2]? := hg.block _ (Array.getElem?_eq_some_iff.1 h.br).1 (hnr _ (by omega))
  have hset : ∀ k, L ≤ k → (w1.setCell ⟨B + 1, 0, none⟩ (.slice A2 ys.length c2)).heap[k]? = w1.heap[k]? := fun k hk => Below.heap_setCell _ _ _ _ (by show k ≠ B + 1; omega)
  refine ⟨?_, ?_, ?_, ?_, Kd.R_step hr (fun k hk _ => hset k hk)⟩
  · exact (Below.heap_setCell _ _ _ _ (by show B ≠ B + 1; omega)).trans (ho.trans h.bo)
  · exact blk_set (hn.trans h.bn) 0 _
  · exact (Below.heap_setCell _ _ _ _ (by show B + 2 ≠ B + 1; omega)).trans (hrr.trans h.br)
  · exact Kd.S_step (Kd.S_after h.S hg hat) (fun k hk _ => hset k hk.1)
/-- In a round's body: what has become of the world since the round began. -/
structure BodyC (w W w' : World) (L B : Nat) : Prop where
  below : Below w.heap.size w w'
  ko : KeepsOthers W w'
  sz : L ≤ w'.heap.size
  fix : ∀ k, k < L → k ≠ B → k ≠ B + 1 → k ≠ B + 2 → w'.heap[k]? = W.heap[k]?
theorem BodyC.next {w W w' w2 : World} {L B : Nat} (h : BodyC w W w' L B) (hb : Below w'.heap.size w' w2) : BodyC w W w2 L B :=
  ⟨h.below.trans (hb.mono h.below.size), h.ko.trans (keepsOthers_below hb), Nat.le_trans h.sz hb.size, fun k hk n0 n1 n2 => (hb.block k (Nat.lt_of_lt_of_le hk h.sz)).trans (h.fix k hk n0 n1 n2)⟩
theorem BodyC.set {w W w' : World} {L B b : Nat} (h : BodyC w W w' L B) (hw : w.heap.size ≤ b) (hb : b = B ∨ b = B + 1 ∨ b = B + 2) (v : Value) : BodyC w W (w'.setCell ⟨b, 0, none⟩ v) L B :=
  ⟨h.below.setCell (p := ⟨b, 0, none⟩) hw _, h.ko.trans (KeepsOthers.setCell _ _ _), by simpa using h.sz, fun k hk n0 n1 n2 => (Below.heap_setCell _ _ _ _ (by show k ≠ b; omega)).trans (h.fix k hk n0 n1 n2)⟩
theorem BodyC.grown {w W w' w1 : World} {L B : Nat} (h : BodyC w W w' L B) {row : Option Nat} (hg : w'.grownBy w1 row) (hb1 : Below w.heap.size w w1) (hrow : ∀ k, row = some k → L ≤ k) (hty : ∀ k, row = some k → ∃ cs t, w'.heap[k]? = some (.cells cs t (0, 0))) : BodyC w W w1 L B :=
  ⟨hb1, h.ko.trans (KeepsOthers.of_grownBy hg (fun j o hj ho => by obtain ⟨cs, t, hc⟩ := hty j hj; rw [hc] at ho; cases ho; rfl)), Nat.le_trans h.sz hg.size, fun k hk n0 n1 n2 => (hg.block k (Nat.lt_of_lt_of_le hk h.sz) (fun e => by have := hrow k e.symm; omega)).trans (h.fix k hk n0 n1 n2)⟩
def CutB (w0 : World) (L B : Nat) (size : Int) (st : List (List S59) × List S59) (W : World) : Prop := ∃ (room : Int) (Ao : Option Addr) (co : Nat) (An : Option Addr) (cn : Nat), (st.2 ≠ [] → room = size - gsize st.2) ∧ CutM w0 L B st.1 st.2 room Ao co An cn W
theorem ownFrom_cutB {β : Type} (w0 : World) (L B : Nat) (size : Int) (f : β → List (List S59) × List S59) : OwnFrom L (fun s W => CutB w0 L B size (f s) W) := fun s W W' row h hg hr => by
  obtain ⟨room, Ao, co, An, cn, h0, h⟩ := h
  have hk : ∀ (k : Nat) cs t, W.heap[k]? = some (.cells cs t (0, 0)) → W'.heap[k]? = W.heap[k]? := fun k cs t hc => hg.block k (Array.getElem?_eq_some_iff.1 hc).1 (fun e => by
    obtain ⟨_, o, ho, hn⟩ := hr k e.symm
    rw [hc] at ho
    cases ho
    cases hn)
  exact ⟨room, Ao, co, An, cn, h0, h.move (hk _ _ _ h.bo) (hk _ _ _ h.bn) (hk _ _ _ h.br) (fun k _ _ hc => by obtain ⟨cs, t, hc⟩ := hc; exact hk k cs t hc)⟩
set_option maxHeartbeats 4000000 in
set_option maxRecDepth 100000 in
theorem cut_core (A0 : Option Addr) (c0 : Nat) (l0 : List S59) (size : Int) (hz1 : 1 ≤ size) (hz2 : size ≤ 9223372036854775807) (w : World) (hr0 : Kd.C k59 w A0 l0.length l0) (hc0 : l0.length ≤ c0) (hl : l0.length ≤ 2932031007317) (hgs : gsize l0 ≤ 1152921504606846976) (hs : sortedF l0 = true) :
    Calls Try.prog 45 #[.slice A0 l0.length c0, .int .i64 size] w fun e w' => ∃ v0_ : Value, e = .returned v0_ ∧ Kd.S (Kd.slice 59 k59) 54 w' w.heap.size (fun _ => True) v0_ (cutF size l0) ∧ Below w.heap.size w w' := by
  have HR0 := Aside0.mk hr0
  have HS := Aside0.mk (sorted_val l0 (by omega))
  rw [hs] at HS
  obtain ⟨N, hN1, hN2, hN3⟩ := exists_N l0.length l0 (Nat.le_refl _)
  have HN1 := Aside0.mk hN1
  have HN2 := Aside0.mk hN2
  have HN3 := Aside0.mk hN3
  have hz3 : decide (size < 1) = false := decide_eq_false (by omega)
  clear hr0 hs hN1 hN2 hN3
  refine (callsIn_wide (n := 9)).1 ?_
  refine callsIn_of_wp_marks Try.func45 rfl trivial ?_ rfl
  simp only [Try.ntmps45, List.size_toArray, List.length_cons, List.length_nil, Nat.reduceAdd, Nat.reduceSub, Array.replicate_succ, Array.replicate_zero, List.push_toArray, List.append_toArray, List.nil_append, List.cons_append]
  gi_wp2_with (first | (refine ⟨trivial, ?_⟩; gi_at_call 58; refine (callsIn_wide.2 (merge_Sorted.calls _ A0 c0 l0 true _ (Kd.C_below HR0.out (below_alloc (Below.refl _ _) _)) hc0 HS.out)).mono ?_; rintro e w1 ⟨rfl, hb⟩; have HB1 := Aside0.mk hb; have hbz := (blk_cell1 ((hb.block w.heap.size (by simp)).trans (alloc_heap_new' w (.cells #[.int .i64 size] 3))) 0 rfl).1; clear hb) | (refine ⟨trivial, ?_⟩; gi_at_call 59; refine (callsIn_wide.2 (keys_calls A0 l0.length c0 _)).mono ?_; rintro e w2 ⟨rfl, rfl⟩))
  have hw1 := HB1.out.size
  simp only [World.size_alloc] at hw1
  have hbxz : w1.heap[w.heap.size]? = some (.cells #[.int .i64 size] 3 (0, 0)) := (HB1.out.block _ (by simp)).trans (alloc_heap_new' w _)
  have hbl : Below w.heap.size w w1 := (below_alloc (Below.refl _ _) _).trans (HB1.out.mono (by simp))
  obtain ⟨B, hB⟩ : ∃ B, w1.heap.size = B := ⟨_, rfl⟩
  obtain ⟨wl, hwl⟩ : ∃ wl, ((((w1.alloc (Obj.cells #[Value.slice none 0 0] 55)).alloc (Obj.cells #[Value.slice none 0 0] 54)).alloc (Obj.cells #[Value.int IntKind.i64 0] 3)).alloc (Obj.cells #[Value.slice A0 l0.length c0] 54)) = wl := ⟨_, rfl⟩
  have hL : wl.heap.size = B + 4 := by rw [← hwl, ← hB]; simp
  have hs0 : wl.heap[w.heap.size]? = some (.cells #[.int .i64 size] 3 (0, 0)) := by
    rw [← hwl]; exact (Below.heap_alloc _ _ _ (by simp; omega)).trans ((Below.heap_alloc _ _ _ (by simp; omega)).trans ((Below.heap_alloc _ _ _ (by simp; omega)).trans ((Below.heap_alloc _ _ _ (by omega)).trans hbxz)))
  have hb0 : wl.heap[B]? = some (.cells #[.slice none 0 0] 55 (0, 0)) := by
    rw [← hwl, ← hB]; exact (Below.heap_alloc _ _ _ (by simp; omega)).trans ((Below.heap_alloc _ _ _ (by simp; omega)).trans ((Below.heap_alloc _ _ _ (by simp)).trans (alloc_heap_new' w1 _)))
  have hb1 : wl.heap[B + 1]? = some (.cells #[.slice none 0 0] 54 (0, 0)) := by
    rw [← hwl, ← hB]
    have h := alloc_heap_new' (w1.alloc (.cells #[.slice none 0 0] 55)) (.cells #[.slice none 0 0] 54)
    rw [World.size_alloc] at h
    exact (Below.heap_alloc _ _ _ (by simp)).trans ((Below.heap_alloc _ _ _ (by simp)).trans h)
  have hb2 : wl.heap[B + 2]? = some (.cells #[.int .i64 0] 3 (0, 0)) := by
    rw [← hwl, ← hB]
    have h := alloc_heap_new' ((w1.alloc (.cells #[.slice none 0 0] 55)).alloc (.cells #[.slice none 0 0] 54)) (.cells #[.int .i64 0] 3)
    rw [World.size_alloc, World.size_alloc] at h
    exact (Below.heap_alloc _ _ _ (by simp)).trans h
  have hb3 : wl.heap[B + 1 + 1 + 1]? = some (.cells #[.slice A0 l0.length c0] 54 (0, 0)) := by
    rw [← hwl, ← hB]
    have h := alloc_heap_new' (((w1.alloc (.cells #[.slice none 0 0] 55)).alloc (.cells #[.slice none 0 0] 54)).alloc (.cells #[.int .i64 0] 3)) (.cells #[.slice A0 l0.length c0] 54)
    rw [World.size_alloc, World.size_alloc, World.size_alloc] at h
    exact h
  have hbw : Below w.heap.size w wl := by rw [← hwl]; exact below_alloc (below_alloc (below_alloc (below_alloc hbl _) _) _) _
  have hS : OwnFrom wl.heap.size (fun (t : Nat) (W : World) => W.heap[w.heap.size]? = some (.cells #[.int .i64 size] 3 (0, 0)) ∧ CutB w wl.heap.size B size (cutTo size l0 t) W) :=
    OwnFrom.and (fun s X Y row hx hg hr => (hg.block _ (Array.getElem?_eq_some_iff.1 hx).1 (fun e => by have := (hr _ e.symm).1; omega)).trans hx) (ownFrom_cutB w wl.heap.size B size _)
  rw [hwl, hB]
  have HSQ := Aside0.mk hs0
  have HX0 := Aside0.mk hb0
  have HX1 := Aside0.mk hb1
  have HX2 := Aside0.mk hb2
  have HX3 := Aside0.mk hb3
  have HBW := Aside0.mk hbw
  have HOF := Aside0.mk hS
  have hwB : w.heap.size < B := by omega
  clear hs0 hb0 hb1 hb2 hb3 hbw hS hwl hbxz hbl hw1 hB hbz
  refine range_keys 9 (by omega) w A0 c0 l0 HR0.out hc0 (B + 1 + 1 + 1) (by omega) (by omega) rfl rfl N HN2.out HN3.out
    (fun t W => W.heap[w.heap.size]? = some (.cells #[.int .i64 size] 3 (0, 0)) ∧ CutB w wl.heap.size B size (cutTo size l0 t) W)
    (fun t W => W.heap[w.heap.size]? = some (.cells #[.int .i64 size] 3 (0, 0)) ∧ CutB w wl.heap.size B size (cutTo size l0 (t + 1)) W)
    HOF.out (fun t => HOF.out (t + 1)) ?nx ?dr ?h0 HBW.out HX3.out
    (fun t Ag => { tmps := #[Value.slice A0 l0.length c0, Value.int IntKind.i64 size, undef, Value.pointer (some { block := w.heap.size, off := 0 }), Value.slice none 0 0, Value.pointer (some { block := B, off := 0 }), Value.pointer (some { block := B + 1, off := 0 }), Value.pointer (some { block := B + 1 + 1, off := 0 }), Value.slice Ag (grp l0 t).length (grp l0 t).length, undef, undef, undef, Value.slice A0 l0.length c0, Value.bool true, Value.bool false, Value.bool false, Value.int IntKind.i64 size, Value.bool false, Value.bool false, Value.slice A0 l0.length c0, Value.func (Fn.func 66) #[] #[Value.pointer (some { block := B + 1 + 1 + 1, off := 0 })], Value.slice Ag (grp l0 t).length (grp l0 t).length, undef, undef, undef, undef, undef, undef, undef, undef, undef, undef, undef, undef, undef, undef, undef, undef, undef, undef, undef, undef, undef, undef, undef, undef, undef, undef, undef, undef, undef, undef, undef, undef, undef, undef, undef, undef, undef, undef, undef, undef, undef, undef, undef, undef, undef, undef, undef], defers := [] }) ?assign ?body ?done
  case nx =>
    rintro t W m v ⟨h1, room, Ao, co, An, cn, hrm, h2⟩ _ _
    exact ⟨(Below.heap_setCell (W.drewN m) _ _ _ (by show w.heap.size ≠ B + 1 + 1 + 1; omega)).trans h1, room, Ao, co, An, cn, hrm, CutM.set (h2.below (pw_below_drewN (Below.refl _ _) m)) (by omega) (by omega) (by omega) (by omega) v⟩
  case dr =>
    rintro t W m ⟨h1, room, Ao, co, An, cn, hrm, h2⟩
    exact ⟨h1, room, Ao, co, An, cn, hrm, h2.below (pw_below_drewN (Below.refl _ _) m)⟩
  case h0 => exact ⟨HSQ.out, 0, none, 0, none, 0, fun h => absurd rfl h, HX0.out, HX1.out, HX2.out, Kd.S_nil _ _ _ _ _, Kd.R_nil _ _ _ _ _⟩
  case assign =>
    intro l t Ag W K hK
    gi_wp2
    exact hK
  case body =>
    rintro l t Ag W ht hCg hbW hszW ⟨hsq, room, Ao, co, An, cn, hrm, hM⟩
    obtain ⟨g, hg⟩ : ∃ g, grp l0 t = g := ⟨_, rfl⟩
    have HG := Aside0.mk hg
    obtain ⟨hlen, hgz⟩ := cutTo_bd size l0 t
    have hst : cutTo size l0 (t + 1) = cutStep size (cutTo size l0 t) (grp l0 t) := rfl
    have hgne : 0 < g.length := by
      have h1 := runLen_pos' (HN3.out t ht)
      have h2 := grp_length l0 t
      rw [hg] at h2
      omega
    rw [hg] at hCg hlen hgz hst ⊢
    obtain ⟨st, hst0⟩ : ∃ st, cutTo size l0 t = st := ⟨_, rfl⟩
    rw [hst0] at hlen hgz hst hrm hM
    obtain ⟨out, now⟩ := st
    dsimp only at hlen hgz hrm hM
    have hgzz : gsize g ≤ 1152921504606846976 := by omega
    have HL := Aside0.mk hL
    have HP := Aside0.mk (show ∀ (w' : World) (room : Int) (st : List (List S59) × List S59) (Ao : Option Addr) (co : Nat) (An : Option Addr) (cn : Nat), BodyC w W w' wl.heap.size B → cutStep size (out, now) g = st → (st.2 ≠ [] → room = size - gsize st.2) → CutM w wl.heap.size B st.1 st.2 room Ao co An cn w' → KeepsOthers W w' ∧ w'.heap[B + 1 + 1 + 1]? = W.heap[B + 1 + 1 + 1]? ∧ Below w.heap.size w w' ∧ w'.heap[w.heap.size]? = some (.cells #[.int .i64 size] 3 (0, 0)) ∧ CutB w wl.heap.size B size (cutTo size l0 (t + 1)) w' from by
      intro w' room st Ao co An cn h he hr hm
      refine ⟨h.ko, h.fix _ (by omega) (by omega) (by omega) (by omega), h.below, (h.fix _ (by omega) (by omega) (by omega) (by omega)).trans hsq, ?_⟩
      rw [hst, he]
      exact ⟨room, Ao, co, An, cn, hr, hm⟩)
    have HCG := Aside0.mk (Kd.C_below hCg hbW)
    have HCW := Aside0.mk hCg
    have HMW := Aside0.mk hM
    have HBD := Aside0.mk (⟨hbW, KeepsOthers.refl _, hszW, fun _ _ _ _ _ => rfl⟩ : BodyC w W W wl.heap.size B)
    have HRM := Aside0.mk hrm
    have HSQ2 := Aside0.mk hsq
    have hgl : g.length ≤ 2932031007317 := by omega
    clear hg hCg hbW hsq hst hst0 hM hrm hL
    gi_wp2
    gi_loopg [9, 24] g.length (fun kq v9 v24 w' => ∃ i : Nat, v9 = .int .i64 ((gsize (g.take i) : Nat) : Int) ∧ v24 = .int .i64 i ∧ i ≤ g.length ∧ Aside0 (kq = g.length - i) ∧ Aside0 (Below W.heap.size W w'))
    case atStart => exact ⟨0, rfl, rfl, Nat.zero_le _, ⟨rfl⟩, ⟨Below.refl _ _⟩⟩
    case round =>
      obtain ⟨i, rfl, rfl, hi, HK, HBL⟩ := hrel
      by_cases hlt : i < g.length
      · obtain ⟨k1, rfl⟩ : ∃ k1, gk = k1 + 1 := ⟨gk - 1, by have := HK.out; omega⟩
        have HK1 := Aside0.mk (show k1 = g.length - (i + 1) by have := HK.out; omega)
        obtain ⟨ad, ea, x0, x1, x2, x3⟩ := at_T59 (Kd.C_below HCG.out HBL.out) (i : Int) (Int.natCast_nonneg _) (by omega)
        subst ea
        rw [Int.toNat_natCast] at x0 x1 x2 x3
        obtain ⟨x, hx⟩ : ∃ x, rd_T59 g (i : Int) = x := ⟨_, rfl⟩
        rw [hx] at x0 x1 x2 x3
        have htk : g.take (i + 1) = g.take i ++ [x] := by rw [← hx, rd59_getElem g i hlt, List.take_succ_eq_append_getElem hlt]
        have hgs1 : gsize (g.take (i + 1)) = gsize (g.take i) + (x.f0.size + x.f2.size + 16) := by rw [htk, gsize_append]; simp [gsize]
        have hgs2 : gsize (g.take (i + 1)) ≤ gsize g := by
          have h := gsize_append (g.take (i + 1)) (g.drop (i + 1))
          rw [List.take_append_drop] at h
          omega
        have HG1 := Aside0.mk hgs1
        obtain ⟨s, hs⟩ : ∃ s, gsize (g.take i) = s := ⟨_, rfl⟩
        rw [hs] at hgs1 HG1 ⊢
        obtain ⟨f0, f1, f2, f3⟩ := x
        dsimp only at x0 x1 x2 x3 hgs1 HG1
        have hb1 : s + (f0.size + f2.size + 16) ≤ 1152921504606846976 := by omega
        clear hx htk hgs1 hgs2 hs
        gi_wp2
        gi_roundg k1
        case measure => omega
        case rel =>
          refine ⟨i + 1, ?_, by first | rfl | (congr 1; omega) | (simp; done), by omega, HK1, ⟨below_alloc HBL.out _⟩⟩
          rw [HG1.out]
          congr 1
      · obtain rfl : i = g.length := by omega
        rw [List.take_length]
        obtain ⟨ng, hng⟩ : ∃ ng, gsize g = ng := ⟨_, rfl⟩
        have HNG := Aside0.mk hng
        rw [hng] at hgzz hgz ⊢
        have HM2 := Aside0.mk (HMW.out.below HBL.out)
        have HBD2 := Aside0.mk (HBD.out.next HBL.out)
        have hzz := (blk_cell1 ((HBD2.out.fix _ (by have := HL.out; omega) (by omega) (by omega) (by omega)).trans HSQ2.out) 0 rfl).1
        have ho1 := (blk_cell1 HM2.out.bo 0 rfl).1
        have hn1 := (blk_cell1 HM2.out.bn 0 rfl).1
        have hr1 : wr.cell? ⟨B + 1 + 1, 0, none⟩ = some (.int .i64 room) := (blk_cell1 HM2.out.br 0 rfl).1
        have hn2 := (blk_cell1 HM2.out.bn 0 rfl).2
        have hr2 : wr.frozen? ⟨B + 1 + 1, 0, none⟩ = false := (blk_cell1 HM2.out.br 0 rfl).2
        have ho2 := (blk_cell1 HM2.out.bo 0 rfl).2
        have HBLW := HBL
        clear hng HMW HBD HBL HK
        obtain ⟨ad, ea, _⟩ := at_T59 HCG.out 0 (by omega) (by omega)
        subst ea
        have hgn0 : g ≠ [] := fun e => by rw [e] at hgne; exact absurd hgne (Nat.lt_irrefl 0)
        have HGN0 := Aside0.mk hgn0
        clear hgn0
        by_cases hne : now = []
        · subst hne
          have HMQ : Aside0 (CutM w wl.heap.size B out [] size Ao co An cn (wr.setCell ⟨B + 1 + 1, 0, none⟩ (.int .i64 size))) := Aside0.mk (HM2.out.room (by have := HL.out; omega) size)
          have HBDQ : Aside0 (BodyC w W (wr.setCell ⟨B + 1 + 1, 0, none⟩ (.int .i64 size)) wl.heap.size B) := Aside0.mk (HBD2.out.set (b := B + 2) (by omega) (.inr (.inr rfl)) _)
          have hn3 : (wr.setCell ⟨B + 1 + 1, 0, none⟩ (.int .i64 size)).cell? ⟨B + 1, 0, none⟩ = some (.slice An 0 cn) := (blk_cell1 HMQ.out.bn 0 rfl).1
          have hn1' : wr.cell? ⟨B + 1, 0, none⟩ = some (.slice An 0 cn) := hn1
          clear hn1
          gi_wp2_with (gi_at_builtin; refine append_rows_in k59 (Rr := k59.K (wr.setCell ⟨B + 1 + 1, 0, none⟩ (.int .i64 size))) (w0 := w) w.heap.size rfl (.tmp 55) (.tmp 56) 54 59 (.agg #[(.string ⟨#[]⟩), (.int .u64 0), (.string ⟨#[]⟩), (.bool false)]) 48 rfl Try.underlying54 info59 rfl (by decide) (by decide) (.slice An (([] : List S59)).length cn) ([] : List S59) g (some ad) g.length g.length (fun k => wl.heap.size ≤ k) (fun _ => False) rfl rfl HMQ.out.R (Kd.C_below HCW.out HBDQ.out.below) (fun x_ cs_ h_ => by rw [k59_open h_]; exact k59_mkM _ _ _ x_) (fun _ h_ => h_.elim) (fun k_ hk_ => by have := HBDQ.out.sz; omega) HBDQ.out.below (by have := HBDQ.out.below.size; exact this) (by simp only [List.length_nil]; omega) ?_; intro v3 w6 ho2_ hb2 hg2 hat2; obtain ⟨ys, hys⟩ : ∃ ys, ([] : List S59) ++ g = ys := ⟨_, rfl⟩; rw [hys] at ho2_; have HYS := Aside0.mk hys; obtain ⟨A3, c3, rfl⟩ := Kd.R_slice ho2_; have HM5 := Aside0.mk (HMQ.out.grow (by have := HL.out; omega) ho2_ hg2 hat2); have HBD5 := Aside0.mk ((HBDQ.out.grown hg2 hb2 (fun k_ hk_ => HMQ.out.R.1 k_ hk_) (fun k_ hk_ => by obtain ⟨cs_, hc_⟩ := Kd.R_typed HMQ.out.R k_ hk_; exact ⟨cs_, _, hc_⟩)).set (b := B + 1) (by omega) (.inr (.inl rfl)) (.slice A3 ys.length c3)); have hnn5 : w6.cell? ⟨B + 1, 0, none⟩ = some (.slice An (([] : List S59)).length cn) ∧ w6.frozen? ⟨B + 1, 0, none⟩ = false := blk_cell1 ((hg2.block (B + 1) (Array.getElem?_eq_some_iff.1 HMQ.out.bn).1 (fun e_ => by have := HMQ.out.R.1 _ e_.symm; have := HL.out; omega)).trans HMQ.out.bn) 0 rfl; have hnc5 := hnn5.1; have hnf5 := hnn5.2; have hrc5 : (w6.setCell ⟨B + 1, 0, none⟩ (.slice A3 ys.length c3)).cell? ⟨B + 1 + 1, 0, none⟩ = some (.int .i64 (size)) := (blk_cell1 HM5.out.br 0 rfl).1; have hrf5 : (w6.setCell ⟨B + 1, 0, none⟩ (.slice A3 ys.length c3)).frozen? ⟨B + 1 + 1, 0, none⟩ = false := (blk_cell1 HM5.out.br 0 rfl).2; clear hys ho2_ hb2 hg2 hat2 hnn5)
          refine HP.out _ (size - ng) (out, ys) _ _ _ _ (HBD5.out.set (b := B + 2) (by omega) (.inr (.inr rfl)) _) ?_ ?_ (HM5.out.room (by have := HL.out; omega) _)
          · rw [← HYS.out]
            unfold cutStep
            rw [if_neg HGN0.out, if_neg (by simp)]
          · intro _
            show size - (ng : Int) = size - (gsize ys : Nat)
            rw [← HYS.out, List.nil_append, HNG.out]
        · have hrm := HRM.out hne
          have hnl : 0 < now.length := List.length_pos_iff.2 hne
          have HNE := Aside0.mk hne
          have HRM2 := Aside0.mk hrm
          clear hne
          by_cases hgt : (ng : Int) > room
          · have hgt1 : decide (room < (ng : Int)) = true := decide_eq_true (by omega)
            clear hrm
            gi_wp2_with (first | (gi_at_builtin; refine append_rows_in k59 (Rr := k59.K ((((w5.setCell ⟨B, 0, none⟩ (.slice A2 os.length c2)).setCell ⟨B + 1, 0, none⟩ (.slice none 0 0)).setCell ⟨B + 1 + 1, 0, none⟩ (.int .i64 size)))) (w0 := w) w.heap.size rfl (.tmp 55) (.tmp 56) 54 59 (.agg #[(.string ⟨#[]⟩), (.int .u64 0), (.string ⟨#[]⟩), (.bool false)]) 48 rfl Try.underlying54 info59 rfl (by decide) (by decide) (.slice none (([] : List S59)).length 0) ([] : List S59) g (some ad) g.length g.length (fun k => wl.heap.size ≤ k) (fun _ => False) rfl rfl HMQ.out.R (Kd.C_below HCW.out HBDQ.out.below) (fun x_ cs_ h_ => by rw [k59_open h_]; exact k59_mkM _ _ _ x_) (fun _ h_ => h_.elim) (fun k_ hk_ => by have := HBDQ.out.sz; omega) HBDQ.out.below (by have := HBDQ.out.below.size; exact this) (by simp only [List.length_nil]; omega) ?_; intro v3 w6 ho2_ hb2 hg2 hat2; obtain ⟨ys, hys⟩ : ∃ ys, ([] : List S59) ++ g = ys := ⟨_, rfl⟩; rw [hys] at ho2_; have HYS := Aside0.mk hys; obtain ⟨A3, c3, rfl⟩ := Kd.R_slice ho2_; have HM5 := Aside0.mk (HMQ.out.grow (by have := HL.out; omega) ho2_ hg2 hat2); have HBD5 := Aside0.mk ((HBDQ.out.grown hg2 hb2 (fun k_ hk_ => HMQ.out.R.1 k_ hk_) (fun k_ hk_ => by obtain ⟨cs_, hc_⟩ := Kd.R_typed HMQ.out.R k_ hk_; exact ⟨cs_, _, hc_⟩)).set (b := B + 1) (by omega) (.inr (.inl rfl)) (.slice A3 ys.length c3)); have hnn5 : w6.cell? ⟨B + 1, 0, none⟩ = some (.slice none (([] : List S59)).length 0) ∧ w6.frozen? ⟨B + 1, 0, none⟩ = false := blk_cell1 ((hg2.block (B + 1) (Array.getElem?_eq_some_iff.1 HMQ.out.bn).1 (fun e_ => by have := HMQ.out.R.1 _ e_.symm; have := HL.out; omega)).trans HMQ.out.bn) 0 rfl; have hnc5 := hnn5.1; have hnf5 := hnn5.2; have hrc5 : (w6.setCell ⟨B + 1, 0, none⟩ (.slice A3 ys.length c3)).cell? ⟨B + 1 + 1, 0, none⟩ = some (.int .i64 (size)) := (blk_cell1 HM5.out.br 0 rfl).1; have hrf5 : (w6.setCell ⟨B + 1, 0, none⟩ (.slice A3 ys.length c3)).frozen? ⟨B + 1 + 1, 0, none⟩ = false := (blk_cell1 HM5.out.br 0 rfl).2; clear hys ho2_ hb2 hg2 hat2 hnn5) | (gi_at_builtin; refine append_S_in (Kd.slice 59 k59) (w0 := w) w.heap.size rfl (.tmp 47) (.tmp 49) 55 54 (.slice none 0 0) 24 rfl Try.underlying55 info54 rfl (by decide) (by decide) (.slice Ao out.length co) out now [.slice An now.length cn] (fun k => wl.heap.size ≤ k) (fun k => some k = (Value.slice An now.length cn).ownBlock) rfl rfl (Kd.M_row (Kd.R_mono (Kd.R_tight rfl HM2.out.R) (fun _ h_ => h_))) (fun k_ hk_ => (Kd.R_apart' HM2.out.R (Kd.S_typed HM2.out.S) (by decide)).1 k_ hk_.symm) (fun k_ hk_ => by have := HBD2.out.sz; omega) (Kd.S_mono HM2.out.S (fun k_ hk_ => ⟨hk_.1, fun e_ => hk_.2 e_⟩)) HBD2.out.below HBD2.out.below.size (by omega) ?_; intro v2 w5 hs2 hb2 hg2 hat2; obtain ⟨A2, c2, rfl⟩ := Kd.S_slice hs2; have HMF := Aside0.mk (HM2.out.flush (by have := HL.out; omega) hs2 hg2); have HBDF := Aside0.mk (((HBD2.out.grown hg2 hb2 (fun k_ hk_ => ((Kd.S_R HM2.out.S).1 k_ hk_).1) (fun k_ hk_ => by obtain ⟨cs_, hc_⟩ := Kd.S_typed HM2.out.S k_ hk_; exact ⟨cs_, _, hc_⟩)).set (b := B) (by omega) (.inl rfl) (.slice A2 (out ++ [now]).length c2)).set (b := B + 1) (by omega) (.inr (.inl rfl)) (.slice none 0 0)); have hnr : ∀ k, k < wl.heap.size → some k ≠ (Value.slice Ao out.length co).ownBlock := fun k hk e => by { have := ((Kd.S_R HM2.out.S).1 k e.symm).1; omega }; have q1 := blk_cell1 ((hg2.block B (Array.getElem?_eq_some_iff.1 HM2.out.bo).1 (hnr _ (by have := HL.out; omega))).trans HM2.out.bo) 0 rfl; have q2 := blk_cell1 (((Below.heap_setCell w5 ⟨B, 0, none⟩ (.slice A2 (out ++ [now]).length c2) (B + 1) (by show B + 1 ≠ B; omega)).trans (hg2.block (B + 1) (Array.getElem?_eq_some_iff.1 HM2.out.bn).1 (hnr _ (by have := HL.out; omega)))).trans HM2.out.bn) 0 rfl; clear hs2 hb2 hg2 hat2 hnr; obtain ⟨os, hos⟩ : ∃ os, out ++ [now] = os := ⟨_, rfl⟩; rw [hos] at HMF HBDF q2 ⊢; have HOS := Aside0.mk hos; clear hos; have q1a := q1.1; have q1b := q1.2; have q2a := q2.1; have q2b := q2.2; have f1 : ((w5.setCell ⟨B, 0, none⟩ (.slice A2 os.length c2)).setCell ⟨B + 1, 0, none⟩ (.slice none 0 0)).cell? ⟨B + 1, 0, none⟩ = some (.slice none 0 0) := (blk_cell1 HMF.out.bn 0 rfl).1; have f2 : ((w5.setCell ⟨B, 0, none⟩ (.slice A2 os.length c2)).setCell ⟨B + 1, 0, none⟩ (.slice none 0 0)).cell? ⟨w.heap.size, 0, none⟩ = some (.int .i64 size) := (blk_cell1 ((HBDF.out.fix _ (by have := HL.out; omega) (by omega) (by omega) (by omega)).trans HSQ2.out) 0 rfl).1; have f3 : ((w5.setCell ⟨B, 0, none⟩ (.slice A2 os.length c2)).setCell ⟨B + 1, 0, none⟩ (.slice none 0 0)).cell? ⟨B + 1 + 1, 0, none⟩ = some (.int .i64 room) := (blk_cell1 HMF.out.br 0 rfl).1; have f4 : ((w5.setCell ⟨B, 0, none⟩ (.slice A2 os.length c2)).setCell ⟨B + 1, 0, none⟩ (.slice none 0 0)).frozen? ⟨B + 1 + 1, 0, none⟩ = false := (blk_cell1 HMF.out.br 0 rfl).2; have HMQ : Aside0 (CutM w wl.heap.size B os [] size A2 c2 none 0 (((w5.setCell ⟨B, 0, none⟩ (.slice A2 os.length c2)).setCell ⟨B + 1, 0, none⟩ (.slice none 0 0)).setCell ⟨B + 1 + 1, 0, none⟩ (.int .i64 size))) := Aside0.mk (HMF.out.room (by have := HL.out; omega) size); have HBDQ : Aside0 (BodyC w W (((w5.setCell ⟨B, 0, none⟩ (.slice A2 os.length c2)).setCell ⟨B + 1, 0, none⟩ (.slice none 0 0)).setCell ⟨B + 1 + 1, 0, none⟩ (.int .i64 size)) wl.heap.size B) := Aside0.mk (HBDF.out.set (b := B + 2) (by omega) (.inr (.inr rfl)) _); have f5 : (((w5.setCell ⟨B, 0, none⟩ (.slice A2 os.length c2)).setCell ⟨B + 1, 0, none⟩ (.slice none 0 0)).setCell ⟨B + 1 + 1, 0, none⟩ (.int .i64 size)).cell? ⟨B + 1, 0, none⟩ = some (.slice none 0 0) := (blk_cell1 HMQ.out.bn 0 rfl).1; clear q1 q2))
            refine HP.out _ (size - ng) (os, ys) _ _ _ _ (HBD5.out.set (b := B + 2) (by omega) (.inr (.inr rfl)) _) ?_ ?_ (HM5.out.room (by have := HL.out; omega) _)
            · rw [← HYS.out, ← HOS.out]
              unfold cutStep
              rw [if_neg HGN0.out, if_pos ⟨HNE.out, by have := HRM2.out; rw [HNG.out]; dsimp only; omega⟩]
              rfl
            · intro _
              show size - (ng : Int) = size - (gsize ys : Nat)
              rw [← HYS.out, List.nil_append, HNG.out]
          · have hgt1 : decide (room < (ng : Int)) = false := decide_eq_false (by omega)
            have hrb1 : -1152921504606846976 ≤ room := by omega
            have hrb2 : room ≤ 9223372036854775807 := by omega
            clear hrm
            gi_wp2_with (gi_at_builtin; refine append_rows_in k59 (Rr := k59.K (wr)) (w0 := w) w.heap.size rfl (.tmp 55) (.tmp 56) 54 59 (.agg #[(.string ⟨#[]⟩), (.int .u64 0), (.string ⟨#[]⟩), (.bool false)]) 48 rfl Try.underlying54 info59 rfl (by decide) (by decide) (.slice An (now).length cn) now g (some ad) g.length g.length (fun k => wl.heap.size ≤ k) (fun _ => False) rfl rfl HM2.out.R (Kd.C_below HCW.out HBD2.out.below) (fun x_ cs_ h_ => by rw [k59_open h_]; exact k59_mkM _ _ _ x_) (fun _ h_ => h_.elim) (fun k_ hk_ => by have := HBD2.out.sz; omega) HBD2.out.below (by have := HBD2.out.below.size; exact this) (by omega) ?_; intro v3 w6 ho2_ hb2 hg2 hat2; obtain ⟨ys, hys⟩ : ∃ ys, now ++ g = ys := ⟨_, rfl⟩; rw [hys] at ho2_; have HYS := Aside0.mk hys; obtain ⟨A3, c3, rfl⟩ := Kd.R_slice ho2_; have HM5 := Aside0.mk (HM2.out.grow (by have := HL.out; omega) ho2_ hg2 hat2); have HBD5 := Aside0.mk ((HBD2.out.grown hg2 hb2 (fun k_ hk_ => HM2.out.R.1 k_ hk_) (fun k_ hk_ => by obtain ⟨cs_, hc_⟩ := Kd.R_typed HM2.out.R k_ hk_; exact ⟨cs_, _, hc_⟩)).set (b := B + 1) (by omega) (.inr (.inl rfl)) (.slice A3 ys.length c3)); have hnn5 : w6.cell? ⟨B + 1, 0, none⟩ = some (.slice An (now).length cn) ∧ w6.frozen? ⟨B + 1, 0, none⟩ = false := blk_cell1 ((hg2.block (B + 1) (Array.getElem?_eq_some_iff.1 HM2.out.bn).1 (fun e_ => by have := HM2.out.R.1 _ e_.symm; have := HL.out; omega)).trans HM2.out.bn) 0 rfl; have hnc5 := hnn5.1; have hnf5 := hnn5.2; have hrc5 : (w6.setCell ⟨B + 1, 0, none⟩ (.slice A3 ys.length c3)).cell? ⟨B + 1 + 1, 0, none⟩ = some (.int .i64 (room)) := (blk_cell1 HM5.out.br 0 rfl).1; have hrf5 : (w6.setCell ⟨B + 1, 0, none⟩ (.slice A3 ys.length c3)).frozen? ⟨B + 1 + 1, 0, none⟩ = false := (blk_cell1 HM5.out.br 0 rfl).2; clear hys ho2_ hb2 hg2 hat2 hnn5)
            refine HP.out _ (room - ng) (out, ys) _ _ _ _ (HBD5.out.set (b := B + 2) (by omega) (.inr (.inr rfl)) _) ?_ ?_ (HM5.out.room (by have := HL.out; omega) _)
            · rw [← HYS.out]
              unfold cutStep
              rw [if_neg HGN0.out, if_neg (fun h => by have h2 := h.2; rw [HNG.out] at h2; have h3 := HRM2.out; dsimp only at h2; omega)]
            · intro _
              show room - (ng : Int) = size - (gsize ys : Nat)
              rw [← HYS.out, gsize_append, HNG.out, HRM2.out]
              omega
  case done =>
    rintro D W hD hbW ⟨hsq, room, Ao, co, An, cn, hrm, hM⟩ hK
    have hcf := cutF_eq size l0 N HN1.out HN2.out
    obtain ⟨hlen, _⟩ := cutTo_bd size l0 N
    obtain ⟨st, hst0⟩ : ∃ st, cutTo size l0 N = st := ⟨_, rfl⟩
    rw [hst0] at hlen hM hcf
    obtain ⟨out, now⟩ := st
    dsimp only at hlen hM hcf
    have HCF := Aside0.mk hcf
    have HM2 := Aside0.mk hM
    have HBW2 := Aside0.mk hbW
    have HKD := Aside0.mk hK
    have hsz : wl.heap.size ≤ W.heap.size := by have := (Array.getElem?_eq_some_iff.1 hK).1; omega
    have ho1 := (blk_cell1 hM.bo 0 rfl).1
    have hn1 := (blk_cell1 hM.bn 0 rfl).1
    have ho2 := (blk_cell1 hM.bo 0 rfl).2
    have HL := Aside0.mk hL
    clear hsq hrm hM hK hbW hcf hst0 hL
    have hfin : ∀ (W2 W' : World) (v : Value) (xs : List (List S59)), W2.heap[D]? = some (.deferred (some [])) → Kd.S (Kd.slice 59 k59) 54 W2 w.heap.size (fun k => wl.heap.size ≤ k) v xs → ShutMarks [D] W2 W' → Kd.S (Kd.slice 59 k59) 54 W' w.heap.size (fun _ => True) v xs := by
      intro W2 W' v xs hkd hs hsm
      refine Kd.S_mono (Kd.S_move (Kd.S_bound hs) (fun k hk => hsm.block k (fun hm => ?_))) (fun _ _ => trivial)
      obtain rfl := List.mem_singleton.1 hm
      obtain ⟨_, _, _, qq, _, cells, hc⟩ := hk
      rw [hkd] at hc
      cases hc
    have HFIN := Aside0.mk hfin
    clear hfin
    by_cases hne : now = []
    · subst hne
      have hn1' : W.cell? ⟨B + 1, 0, none⟩ = some (.slice An 0 cn) := hn1
      clear hn1
      gi_wp2
      refine leavesMarks [D] W (by simp) (fun D' hD' => by obtain rfl := List.mem_singleton.1 hD'; exact HKD.out) (fun W' hs => ?_)
      refine ⟨_, results_tmp rfl _ _ _, _, rfl, ?_, HBW2.out.trans (hs.below (fun D' hD' => by obtain rfl := List.mem_singleton.1 hD'; have := HBW.out.size; omega))⟩
      rw [HCF.out]
      simp only [if_true]
      exact HFIN.out W W' _ _ HKD.out (Kd.S_mono HM2.out.S (fun k hk => hk.1)) hs
    · have hnl : 0 < now.length := List.length_pos_iff.2 hne
      have HNE := Aside0.mk hne
      clear hne
      gi_wp2_with (gi_at_builtin; refine append_S_in (Kd.slice 59 k59) (w0 := w) w.heap.size rfl (.tmp 64) (.tmp 66) 55 54 (.slice none 0 0) 24 rfl Try.underlying55 info54 rfl (by decide) (by decide) (.slice Ao out.length co) out now [.slice An now.length cn] (fun k => wl.heap.size ≤ k) (fun k => some k = (Value.slice An now.length cn).ownBlock) rfl rfl (Kd.M_row (Kd.R_mono (Kd.R_tight rfl HM2.out.R) (fun _ h_ => h_))) (fun k_ hk_ => (Kd.R_apart' HM2.out.R (Kd.S_typed HM2.out.S) (by decide)).1 k_ hk_.symm) (fun k_ hk_ => by omega) (Kd.S_mono HM2.out.S (fun k_ hk_ => ⟨hk_.1, fun e_ => hk_.2 e_⟩)) HBW2.out HBW2.out.size (by omega) ?_; intro v2 w5 hs2 hb2 hg2 hat2; obtain ⟨A2, c2, rfl⟩ := Kd.S_slice hs2; have hnr : ∀ k, k < wl.heap.size → some k ≠ (Value.slice Ao out.length co).ownBlock := fun k hk e => by { have := ((Kd.S_R HM2.out.S).1 k e.symm).1; omega }; have q1 := blk_cell1 ((hg2.block B (Array.getElem?_eq_some_iff.1 HM2.out.bo).1 (hnr _ (by have := HL.out; omega))).trans HM2.out.bo) 0 rfl; have hkd : w5.heap[D]? = some (.deferred (some [])) := (hg2.block D (Array.getElem?_eq_some_iff.1 HKD.out).1 (fun e_ => by obtain ⟨cs_, hc_⟩ := Kd.S_typed HM2.out.S D e_.symm; rw [HKD.out] at hc_; cases hc_)).trans HKD.out; have HKD5 := Aside0.mk hkd; have q1a := q1.1; have q1b := q1.2; have HS2 := Aside0.mk hs2; have HB2 := Aside0.mk hb2; clear hs2 hb2 hg2 hat2 hnr q1 hkd; obtain ⟨os, hos⟩ : ∃ os, out ++ [now] = os := ⟨_, rfl⟩; rw [hos] at HS2 ⊢; have HOS := Aside0.mk hos; clear hos)
      refine leavesMarks [D] _ (by simp) (fun D' hD' => by obtain rfl := List.mem_singleton.1 hD'; exact (Below.heap_setCell _ _ _ _ (by show D' ≠ B; have := HL.out; omega)).trans HKD5.out) (fun W' hs => ?_)
      refine ⟨_, results_tmp rfl _ _ _, _, rfl, ?_, (HB2.out.setCell (p := ⟨B, 0, none⟩) (by show w.heap.size ≤ B; omega) _).trans (hs.below (fun D' hD' => by obtain rfl := List.mem_singleton.1 hD'; have := HBW.out.size; omega))⟩
      rw [HCF.out, if_neg HNE.out, HOS.out]
      exact HFIN.out _ W' _ _ ((Below.heap_setCell _ _ _ _ (by show D ≠ B; have := HL.out; omega)).trans HKD5.out) (Kd.S_step HS2.out (fun k hk _ => Below.heap_setCell _ _ _ _ (by show k ≠ B; have := HL.out; omega))) hs
def merge_Cut.f (l0 : List S59) (size : Int) : Option (List (List S59)) := if l0.length ≤ 2932031007317 ∧ gsize l0 ≤ 1152921504606846976 ∧ size ≤ 9223372036854775807 then (if sortedF l0 = true ∧ 1 ≤ size then some (cutF size l0) else some []) else none
set_option maxHeartbeats 4000000 in
set_option maxRecDepth 100000 in
theorem merge_Cut.calls (A0 : Option Addr) (c0 : Nat) (l0 : List S59) (size : Int) (r : List (List S59)) (w : World) (hr0 : Kd.C k59 w A0 l0.length l0) (hc0 : l0.length ≤ c0) (h : merge_Cut.f l0 size = some r) :
    Calls Try.prog 45 #[.slice A0 l0.length c0, .int .i64 size] w fun e w' => ∃ v0_ : Value, e = .returned v0_ ∧ Kd.S (Kd.slice 59 k59) 54 w' w.heap.size (fun _ => True) v0_ r ∧ Below w.heap.size w w' := by
  unfold merge_Cut.f at h
  by_cases hl : l0.length ≤ 2932031007317 ∧ gsize l0 ≤ 1152921504606846976 ∧ size ≤ 9223372036854775807
  rotate_left
  · rw [if_neg hl] at h; cases h
  rw [if_pos hl] at h
  obtain ⟨hl, hgz, hsz⟩ := hl
  by_cases hs : sortedF l0 = true ∧ 1 ≤ size
  · rw [if_pos hs] at h
    obtain rfl := Option.some.inj h
    exact cut_core A0 c0 l0 size hs.2 hsz w hr0 hc0 hl hgz hs.1
  · rw [if_neg hs] at h
    obtain rfl := Option.some.inj h
    have HR0 := Aside0.mk hr0
    have HS := Aside0.mk (sorted_val l0 (by omega))
    clear hr0 h
    cases hb : sortedF l0 with
    | true =>
      have hlt : decide (size < 1) = true := decide_eq_true (by
        have : ¬ (1 ≤ size) := fun h => hs ⟨hb, h⟩
        omega)
      rw [hb] at HS
      clear hs hb
      go_enter Try.func45, Try.ntmps45
      go_wp2_with (go_at_call 58; refine (merge_Sorted.calls _ A0 c0 l0 true _ (Kd.C_below HR0.out (below_alloc (Below.refl _ _) _)) hc0 HS.out).mono ?_; rintro e w1 ⟨rfl, hb⟩; have HB1 := Aside0.mk hb; have hbz := (blk_cell1 ((hb.block w.heap.size (by simp)).trans (alloc_heap_new' w (.cells #[.int .i64 size] 3))) 0 rfl).1; clear hb)
      go_ret
      exact ⟨_, rfl, Kd.S_nil _ _ _ _ _, (below_alloc (Below.refl _ _) _).trans (HB1.out.mono (by simp))⟩
    | false =>
      rw [hb] at HS
      clear hs hb
      go_enter Try.func45, Try.ntmps45
      go_wp2_with (go_at_call 58; refine (merge_Sorted.calls _ A0 c0 l0 false _ (Kd.C_below HR0.out (below_alloc (Below.refl _ _) _)) hc0 HS.out).mono ?_; rintro e w1 ⟨rfl, hb⟩; have HB1 := Aside0.mk hb; clear hb)
      go_ret
      exact ⟨_, rfl, Kd.S_nil _ _ _ _ _, (below_alloc (Below.refl _ _) _).trans (HB1.out.mono (by simp))⟩
end Go.Proofs.Ytdibolblgchpdaa.P
