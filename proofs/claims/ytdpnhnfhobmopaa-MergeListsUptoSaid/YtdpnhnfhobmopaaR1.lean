/- A range over a function whose iterator keeps state in a cell: a law for bodies that are never left early. -/
import Derived.Test.YtdpnhnfhobmopaaH1g
import Derived.RangeFuncNested
import Derived.RangeFuncBound
import Derived.RangeFuncCalls
import Derived.RangeFuncLeaves
import Derived.RangeFuncFrom
import Derived.Shelf.Abstract
import Derived.Shelf.RegionOpen
import Derived.WalkKit
import Derived.OwnWalkIn
import Derived.TacticsInMore
import Derived.LoopNIn
import Derived.LoopIn
namespace Go.Proofs.Ytdpnhnfhobmopaa.P
open Go.RowKit Go.Shelf Go.Proofs.YtdpnhnfhobmopaaW.PrintWords Go.Proofs.YtdpnhnfhobmopaaW.PrintLast Go.Proofs.YtdpnhnfhobmopaaW.PrintMore
set_option linter.unusedVariables false
set_option linter.unusedSimpArgs false

/-- The iterator's word: it asks N rounds, one behind the other; between two of them it may do to the world what Cl says. -/
def Asks (F : Fence) (n : Nat) (P : Program) (g : Nat) (lb : Array Value) (encs : Nat → Array Value) (N : Nat) (Hold : Nat → World → Prop) (Cl : Nat → World → World → Prop) : Prop :=
  ∀ (l : Nat) (J J' : Nat → World → Prop) (W : World), (∀ t W, J t W → Hold t W) → (∀ t W, J' t W → Hold t W) → (∀ t A B, J' t A → Cl t A B → J (t + 1) B) → (∀ t A m, J t A → J t (A.drewN m)) →
    (∀ t W, J t W → t < N → YieldAt F (n - 1) P l (encs t) W fun e W' => e = .returned (.bool true) ∧ J' t W') → J 0 W →
    CallsIn F n P g (#[.func (.yield l) #[] #[]] ++ lb) W fun e W' => (∃ v, e = .returned v) ∧ J N W'
/-- How the body is left: at its end alone. -/
def atEnd (J' : World → Prop) (W : World) : Exit → Act → World → Prop
  | .normal, _, W' => KeepsOthers W W' ∧ J' W'
  | _, _, _ => False
theorem rangeFunc_asks {P : Program} {F : Fence} {n : Nat} {g : Operand} {ps : Array Tmp} {assign body : Code} {Q : Exit → Act → World → Prop} {a : Act} {w : World} (hro : F.round = none) (h1 : 1 ≤ n) {gf : Nat} {lb : Array Value}
    (hg : a.eval g = .func (.func gf) #[] lb) (hFg : F.fn gf) (eg : ∀ args w, (callFunc gf args).run P w = .ok (.enter gf args) w) {encs : Nat → Array Value} {N : Nat} {Hold : Nat → World → Prop} {Cl : Nat → World → World → Prop}
    (hit : Asks F (n - 1) P gf lb encs N Hold Cl) (hps : ∀ t, (encs t).size = ps.size) (I I' : Nat → World → Prop) (hI : OwnFrom w.heap.size I) (hI' : OwnFrom w.heap.size I')
    (hh : ∀ t W, I t W → Hold t W) (hh' : ∀ t W, I' t W → Hold t W) (hcl : ∀ t A B, I' t A → Cl t A B → I (t + 1) B) (hclk : ∀ t A B k, Cl t A B → w.heap.size ≤ k → B.heap[k]? = A.heap[k]?) (hd : ∀ t A m, I t A → I t (A.drewN m))
    (h0 : I 0 w) (a₁ : Nat → Act)
    (hassign : ∀ (l t : Nat) (W : World) (K : Act → World → Prop), K (a₁ t) W → assign.wpIn (F.inRound l) (n - 1 - 1) P (Exit.then K (fun _ _ _ => False)) { tmps := (ps.zip (encs t)).foldl (fun t (p, v) => t.setIfInBounds p v) a.tmps, defers := [] } W)
    (hbody : ∀ (l t : Nat) (W : World), I t W → t < N → body.wpIn (F.inRound l) (n - 1 - 1) P (atEnd (I' t) W) (a₁ t) W)
    (hdone : ∀ (D : Nat) (W : World), w.heap.size ≤ D → I N W → W.heap[D]? = some (.deferred (some [])) → Q .normal { a with defers := { target := .collected D, args := #[] } :: a.defers } W) :
    (Code.rangeFunc g ps assign body).wpIn F n P Q a w := by
  refine wpIn_rangeFunc (fun fn hfn => ?_)
  rw [hro]
  obtain ⟨rc, hrc⟩ : ∃ rc : LoopState → Loop, rc = fun st => { state := st, pending := none, fn, tmps := a.tmps, params := ps, assign, body, defers := w.heap.size } := ⟨_, rfl⟩
  obtain ⟨V, hV⟩ : ∃ V, (w.alloc (.deferred (some []))).alloc (.loop (rc .ready)) = V := ⟨_, rfl⟩
  have hbk : V.heap[w.heap.size]? = some (.deferred (some [])) ∧ V.heap[w.heap.size + 1]? = some (.loop (rc .ready)) := by
    rw [← hV]
    refine ⟨(Below.heap_alloc _ _ _ (by simp)).trans (alloc_heap_new' w _), ?_⟩
    have h := alloc_heap_new' (w.alloc (.deferred (some []))) (.loop (rc .ready))
    rwa [World.size_alloc] at h
  refine ⟨w.heap.size + 1, [{ target := .collected w.heap.size, args := #[] }], V, { target := .fn (.func gf) lb, args := #[.func (.yield (w.heap.size + 1)) #[] #[]] }, V, gf, #[.func (.yield (w.heap.size + 1)) #[] #[]] ++ lb, V, ?_, ?_, ?_, ?_, fun _ => h1, ?_⟩
  · rw [← hV, hrc]
    exact run_enterLoop_outer _ _ _ _ _
  · simp only [resolve, hg]
    simp [go_sem]
  · intro f' hf'
    simp [Target.leads] at hf'
    subst hf'
    exact hFg
  · simp [invoke, go_sem, eg]
  · have hrest := hit (w.heap.size + 1)
      (fun t W => I t W ∧ W.heap[w.heap.size]? = some (.deferred (some [])) ∧ W.heap[w.heap.size + 1]? = some (.loop (rc .ready)))
      (fun t W => I' t W ∧ W.heap[w.heap.size]? = some (.deferred (some [])) ∧ W.heap[w.heap.size + 1]? = some (.loop (rc .ready))) V
      (fun t W h => hh t W h.1) (fun t W h => hh' t W h.1)
      (fun t A B h hc => ⟨hcl t A B h.1 hc, (hclk t A B _ hc (Nat.le_refl _)).trans h.2.1, (hclk t A B _ hc (by omega)).trans h.2.2⟩)
      (fun t A m h => ⟨hd t A m h.1, h.2.1, h.2.2⟩) ?_ ⟨?_, hbk⟩
    · refine hrest.mono ?_
      rintro e W2 ⟨⟨v, rfl⟩, hi, hk, hl⟩
      refine ⟨none, _, by have := run_endLoop (P := P) hl (by rw [hrc]; simp); rw [hrc] at this; exact this, hdone _ _ (Nat.le_refl _) (hI.putObj _ hi (by omega) hl rfl) ((World.putObj_heap_other (by omega)).trans hk)⟩
    · rintro t W ⟨hi, hk, hl⟩ ht
      have hlt : w.heap.size + 1 < W.heap.size := (Array.getElem?_eq_some_iff.1 hl).1
      have hy := run_yield (P := P) (args := encs t) hl (by rw [hrc]; exact hps t)
      rw [hrc] at hy
      refine ⟨fn, _, assign, body, hy, roundIn_of_wpIn hfn (hassign _ t W _ ⟨_, run_beginRound hl (by rw [hrc]), ?_⟩)⟩
      obtain ⟨W', hW'⟩ : ∃ W', W.putObj (w.heap.size + 1) (.loop { rc .ready with state := .busy }) = W' := ⟨_, rfl⟩
      have hl' : W'.heap[w.heap.size + 1]? = some (.loop { rc .ready with state := .busy }) := by rw [← hW']; exact World.putObj_heap_same hlt
      have hk' : W'.heap[w.heap.size]? = some (.deferred (some [])) := by rw [← hW']; exact (World.putObj_heap_other (by omega)).trans hk
      have hi' : I t W' := by rw [← hW']; exact hI.putObj _ hi (by omega) hl rfl
      rw [hW']
      refine wpIn_mono (hbody _ t W' hi' ht) ?_
      rintro e a3 W3 hp
      cases e with
      | normal =>
        obtain ⟨hko, hi3⟩ := hp
        have hl3 := hko.same _ _ hl' rfl
        have hr := run_endRound (P := P) none hl3
        rw [hrc] at hr
        refine ⟨_, _, hr, rfl, hI'.putObj _ hi3 (by omega) hl3 rfl, (World.putObj_heap_other (by omega)).trans (hko.same _ _ hk' rfl), ?_⟩
        rw [hrc]
        exact World.putObj_heap_same (Array.getElem?_eq_some_iff.1 hl3).1
      | ret => exact hp.elim
      | exit id => exact hp.elim
      | goto t => exact hp.elim
      | panic ch => exact hp.elim
      | outgrown => exact hp.elim
    · rw [← hV]
      exact hI.alloc _ (hI.alloc _ h0)
end Go.Proofs.Ytdpnhnfhobmopaa.P
