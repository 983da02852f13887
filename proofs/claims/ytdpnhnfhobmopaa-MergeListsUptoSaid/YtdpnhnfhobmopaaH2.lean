/- Contracts proved by hand: merge.Visible. -/
import Derived.Test.YtdpnhnfhobmopaaR4
namespace Go
open Go.RowKit
/-- The marks that ranges over functions leave among a frame's deferred calls. -/
def collMarks (Ds : List Nat) : List Deferred := Ds.map fun D => { target := .collected D, args := #[] }
/-- What the leaving of a frame does at these marks: blocks that are no cells are shut. -/
structure ShutMarks (Ds : List Nat) (W W' : World) : Prop where
  os : W'.os = W.os
  tape : W'.tape = W.tape
  output : W'.output = W.output
  size : W'.heap.size = W.heap.size
  block : ∀ k, k ∉ Ds → W'.heap[k]? = W.heap[k]?
theorem ShutMarks.below {Ds : List Nat} {W W' : World} (h : ShutMarks Ds W W') {B : Nat} (hD : ∀ D ∈ Ds, B ≤ D) : Below B W W' := ⟨h.os, h.tape, h.output, by rw [h.size]; exact Nat.le_refl _, fun k hk => h.block k (fun hm => by have := hD k hm; omega)⟩
theorem leavesMarks {F : Fence} {n : Nat} {P : Program} {fn : Func} {tmps : Array Value} {R : Ending → World → Prop} : ∀ (Ds : List Nat) (W : World), Ds.Nodup → (∀ D ∈ Ds, W.heap[D]? = some (.deferred (some []))) →
    (∀ W', ShutMarks Ds W W' → ∃ v, (results fn tmps).run P W' = .ok v W' ∧ R (.returned v) W') → LeavesInM F n P fn tmps R (collMarks Ds) .returning W
  | [], W, _, _, h => by
    obtain ⟨v, hv, hr⟩ := h W ⟨rfl, rfl, rfl, rfl, fun _ _ => rfl⟩
    exact ⟨v, hv, hr⟩
  | D :: Ds, W, hnd, hD, h => by
    have hK := hD D (by simp)
    have hnd' := List.nodup_cons.1 hnd
    refine ⟨by simp, .inl ⟨D, _, rfl, run_takeDeferred hK, ?_⟩⟩
    refine leavesMarks Ds _ hnd'.2 (fun D' hm => (World.putObj_heap_other (fun e => hnd'.1 (by subst e; exact hm))).trans (hD D' (by simp [hm]))) ?_
    intro W' hs
    refine h W' ⟨hs.os, hs.tape, hs.output, by rw [hs.size]; simp [World.putObj], fun k hk => ?_⟩
    rw [hs.block k (fun hm => hk (by simp [hm]))]
    exact World.putObj_heap_other (fun e => hk (by simp [e]))
end Go
namespace Go.Proofs.Ytdpnhnfhobmopaa.P
open Go.RowKit Go.Shelf Go.Proofs.YtdpnhnfhobmopaaW.PrintWords Go.Proofs.YtdpnhnfhobmopaaW.PrintLast Go.Proofs.YtdpnhnfhobmopaaW.PrintMore
attribute [local go_sem] Oper.semAt_some
set_option linter.unusedVariables false
set_option linter.unusedSimpArgs false

/-- What f takes out of each key's cells, key by key. -/
def outTo (f : List S24 → List S24) (l : List S24) (t : Nat) : List S24 := (List.range t).flatMap fun i => f (grp l i)
theorem outTo_succ (f : List S24 → List S24) (l : List S24) (t : Nat) : outTo f l (t + 1) = outTo f l t ++ f (grp l t) := by
  unfold outTo
  rw [List.range_succ, List.flatMap_append]
  simp
theorem outTo_len {f : List S24 → List S24} (hf : ∀ g, (f g).length ≤ g.length) (l : List S24) (t : Nat) : (outTo f l t).length + (restAt l t).length ≤ l.length := by
  induction t with
  | zero => simp [outTo, restAt]
  | succ t ih =>
    rw [outTo_succ, List.length_append]
    have h1 := hf (grp l t)
    rw [grp_length] at h1
    have h2 := runLen_le (restAt l t)
    show _ + _ + ((restAt l t).drop (runLen (restAt l t))).length ≤ _
    rw [List.length_drop]
    omega
/-- Past the last key nothing is taken. -/
theorem outTo_end {f : List S24 → List S24} (hf0 : f [] = []) (l : List S24) (N : Nat) (hN : restAt l N = []) : ∀ d, outTo f l (N + d) = outTo f l N ∧ restAt l (N + d) = [] := by
  intro d
  induction d with
  | zero => exact ⟨rfl, hN⟩
  | succ d ih =>
    obtain ⟨h1, h2⟩ := ih
    have hg : grp l (N + d) = [] := by unfold grp; rw [h2]; rfl
    refine ⟨?_, ?_⟩
    · show outTo f l (N + d + 1) = _
      rw [outTo_succ, hg, hf0, List.append_nil, h1]
    · show (restAt l (N + d)).drop _ = []
      rw [h2]
      exact List.drop_nil
def outAll (f : List S24 → List S24) (l : List S24) : List S24 := outTo f l l.length
theorem outAll_eq {f : List S24 → List S24} (hf0 : f [] = []) (l : List S24) (N : Nat) (hle : N ≤ l.length) (hN : restAt l N = []) : outAll f l = outTo f l N := by
  have := (outTo_end hf0 l N hN (l.length - N)).1
  rw [show N + (l.length - N) = l.length by omega] at this
  exact this
/-- The variable 'out', in memory: what it holds. -/
def OutB (w0 : World) (L B1 : Nat) (xs : List S24) (W : World) : Prop := ∃ v, W.heap[B1]? = some (.cells #[v] 25 (0, 0)) ∧ Kd.R k24 24 W w0.heap.size (fun k => L ≤ k) v xs
theorem ownFrom_outB {β : Type} (w0 : World) (L B1 : Nat) (f : β → List S24) : OwnFrom L (fun s W => OutB w0 L B1 (f s) W) := fun s W W' row h hg hr => by
  obtain ⟨v, h1, h2⟩ := h
  refine ⟨v, (hg.block B1 (Array.getElem?_eq_some_iff.1 h1).1 (fun e => ?_)).trans h1, ownFrom_R L k24 24 _ _ v (f s) () W W' row h2 hg hr⟩
  obtain ⟨_, o, ho, hn⟩ := hr B1 e.symm
  rw [h1] at ho
  cases ho
  cases hn
theorem OutB.move {w0 W W' : World} {L B1 : Nat} {xs : List S24} (h : OutB w0 L B1 xs W) (hb : W'.heap[B1]? = W.heap[B1]?) (hm : ∀ k, L ≤ k → k < W.heap.size → W'.heap[k]? = W.heap[k]?) : OutB w0 L B1 xs W' := by
  obtain ⟨v, h1, h2⟩ := h
  exact ⟨v, hb.trans h1, Kd.R_step h2 hm⟩
/-- Nothing that lay there has changed. -/
theorem OutB.below {w0 W W' : World} {L B1 : Nat} {xs : List S24} (h : OutB w0 L B1 xs W) (hb : Below W.heap.size W W') : OutB w0 L B1 xs W' := by
  refine h.move ?_ (fun k _ hk => hb.block k hk)
  obtain ⟨v, h1, _⟩ := h
  exact hb.block _ (Array.getElem?_eq_some_iff.1 h1).1
theorem OutB.set {w0 W : World} {L B1 B : Nat} {xs : List S24} (h : OutB w0 L B1 xs W) (hB : B < L) (hne : B ≠ B1) (v : Value) : OutB w0 L B1 xs (W.setCell ⟨B, 0, none⟩ v) :=
  h.move (Below.heap_setCell _ _ _ _ (fun e => hne e.symm)) (fun k hk _ => Below.heap_setCell _ _ _ _ (by show k ≠ B; omega))
/-- out = append(out, x). -/
theorem OutB.put {w0 W w1 : World} {L B1 : Nat} {xs : List S24} {v v1 : Value} (hb : W.heap[B1]? = some (.cells #[v] 25 (0, 0))) (hr : Kd.R k24 24 W w0.heap.size (fun k => L ≤ k) v xs) (hB1 : B1 < L) {ys : List S24} (hr1 : Kd.R k24 24 w1 w0.heap.size (fun k => L ≤ k) v1 ys) (hg : W.grownBy w1 v.ownBlock) : OutB w0 L B1 ys (w1.setCell ⟨B1, 0, none⟩ v1) := by
  have h1 := (hg.block B1 (Array.getElem?_eq_some_iff.1 hb).1 (fun e => by have := hr.1 B1 e.symm; omega)).trans hb
  refine ⟨v1, blk_set h1 0 v1, Kd.R_step hr1 (fun k hk _ => Below.heap_setCell _ _ _ _ (by show k ≠ B1; omega))⟩
def visG (q : Int) (g : List S24) : List S24 := if 0 ≤ idxFrom q g 0 then (if (rd_T24 g (idxFrom q g 0)).f3 = false then [rd_T24 g (idxFrom q g 0)] else []) else []
theorem visG_len (q : Int) (g : List S24) : (visG q g).length ≤ g.length := by
  unfold visG
  cases g with
  | nil => simp [idxFrom]
  | cons x g => split <;> (try split) <;> simp
theorem idxFrom_bd (q : Int) : ∀ (g : List S24) (i : Nat), idxFrom q g i = -1 ∨ (i : Int) ≤ idxFrom q g i ∧ idxFrom q g i < (i : Int) + g.length
  | [], i => .inl rfl
  | x :: g, i => by
    unfold idxFrom
    split
    · right; simp
      omega
    · have := idxFrom_bd q g (i + 1)
      simp only [List.length_cons]
      omega
theorem keepsOthers_below {W W' : World} (h : Below W.heap.size W W') : KeepsOthers W W' := ⟨h.size, fun k o hk _ => (h.block k (Array.getElem?_eq_some_iff.1 hk).1).trans hk⟩
set_option maxHeartbeats 4000000 in
set_option maxRecDepth 100000 in
theorem visible_core (A0 : Option Addr) (c0 : Nat) (l0 : List S24) (q : Int) (w : World) (hr0 : Kd.C k24 w A0 l0.length l0) (hc0 : l0.length ≤ c0) (hl : l0.length ≤ 2932031007317) (hs : sortedF l0 = true) :
    Calls Try.prog 21 #[.slice A0 l0.length c0, .int .u64 q] w fun e w' => ∃ v0_ : Value, e = .returned v0_ ∧ Kd.R k24 24 w' w.heap.size (fun _ => True) v0_ (outAll (visG q) l0) ∧ Below w.heap.size w w' := by
  have HR0 := Aside0.mk hr0
  have HS := Aside0.mk (sorted_val l0 (by omega))
  rw [hs] at HS
  obtain ⟨N, hN1, hN2, hN3⟩ := exists_N l0.length l0 (Nat.le_refl _)
  have HN1 := Aside0.mk hN1
  have HN2 := Aside0.mk hN2
  have HN3 := Aside0.mk hN3
  clear hr0 hs hN1 hN2 hN3
  refine (callsIn_wide (n := 9)).1 ?_
  refine callsIn_of_wp_marks Try.func21 rfl trivial ?_ rfl
  simp only [Try.ntmps21, List.size_toArray, List.length_cons, List.length_nil, Nat.reduceAdd, Nat.reduceSub, Array.replicate_succ, Array.replicate_zero, List.push_toArray, List.append_toArray, List.nil_append, List.cons_append]
  gi_wp2_with (first | (refine ⟨trivial, ?_⟩; gi_at_call 14; refine (callsIn_wide.2 (merge_Sorted.calls _ A0 c0 l0 true _ (Kd.C_below HR0.out (below_alloc (Below.refl _ _) _)) hc0 HS.out)).mono ?_; rintro e w1 ⟨rfl, hb⟩; have HB1 := Aside0.mk hb; clear hb) | (refine ⟨trivial, ?_⟩; gi_at_call 34; refine (callsIn_wide.2 (keys_calls A0 l0.length c0 _)).mono ?_; rintro e w2 ⟨rfl, rfl⟩))
  have hw1 := HB1.out.size
  rw [World.size_alloc] at hw1
  have hseq : w1.heap[w.heap.size]? = some (.cells #[.int .u64 q] 22 (0, 0)) := (HB1.out.block _ (by simp)).trans (alloc_heap_new' w _)
  have hbl : Below w.heap.size w w1 := (below_alloc (Below.refl _ _) _).trans (HB1.out.mono (by simp))
  obtain ⟨wl, hwl⟩ : ∃ wl, ((w1.alloc (.cells #[.slice none 0 0] 25)).alloc (.cells #[.slice A0 l0.length c0] 25)) = wl := ⟨_, rfl⟩
  have hL : wl.heap.size = w1.heap.size + 2 := by rw [← hwl]; simp
  have hs0 : wl.heap[w.heap.size]? = some (.cells #[.int .u64 q] 22 (0, 0)) := by
    rw [← hwl]; exact (Below.heap_alloc _ _ _ (by simp; omega)).trans ((Below.heap_alloc _ _ _ (by omega)).trans hseq)
  have hb1 : wl.heap[w1.heap.size]? = some (.cells #[.slice none 0 0] 25 (0, 0)) := by
    rw [← hwl]; exact (Below.heap_alloc _ _ _ (by simp)).trans (alloc_heap_new' w1 _)
  have hb2 : wl.heap[w1.heap.size + 1]? = some (.cells #[.slice A0 l0.length c0] 25 (0, 0)) := by
    rw [← hwl]
    have h := alloc_heap_new' (w1.alloc (.cells #[.slice none 0 0] 25)) (.cells #[.slice A0 l0.length c0] 25)
    rw [World.size_alloc] at h
    exact h
  have hbw : Below w.heap.size w wl := by rw [← hwl]; exact below_alloc (below_alloc hbl _) _
  have hS : OwnFrom wl.heap.size (fun (t : Nat) (W : World) => W.heap[w.heap.size]? = some (.cells #[.int .u64 q] 22 (0, 0)) ∧ OutB w wl.heap.size w1.heap.size (outTo (visG q) l0 t) W) :=
    OwnFrom.and (fun s X Y row hx hg hr => (hg.block _ (Array.getElem?_eq_some_iff.1 hx).1 (fun e => by have := (hr _ e.symm).1; omega)).trans hx) (ownFrom_outB w wl.heap.size w1.heap.size _)
  rw [hwl]
  have HSQ := Aside0.mk hs0
  have HX1 := Aside0.mk hb1
  have HX2 := Aside0.mk hb2
  have HBW := Aside0.mk hbw
  have HOF := Aside0.mk hS
  clear hs0 hb1 hb2 hbw hS hwl hseq hbl
  refine range_keys 9 (by omega) w A0 c0 l0 HR0.out hc0 (w1.heap.size + 1) (by omega) (by omega) rfl rfl N HN2.out HN3.out
    (fun t W => W.heap[w.heap.size]? = some (.cells #[.int .u64 q] 22 (0, 0)) ∧ OutB w wl.heap.size w1.heap.size (outTo (visG q) l0 t) W)
    (fun t W => W.heap[w.heap.size]? = some (.cells #[.int .u64 q] 22 (0, 0)) ∧ OutB w wl.heap.size w1.heap.size (outTo (visG q) l0 (t + 1)) W)
    HOF.out (fun t => HOF.out (t + 1)) ?nx ?dr ?h0 HBW.out HX2.out
    (fun t Ag => { tmps := #[Value.slice A0 l0.length c0, Value.int IntKind.u64 q, undef, Value.pointer (some { block := w.heap.size, off := 0 }), Value.slice none 0 0, Value.pointer (some { block := w1.heap.size, off := 0 }), Value.slice Ag (grp l0 t).length (grp l0 t).length, undef, Value.slice A0 l0.length c0, Value.bool true, Value.bool false, Value.slice A0 l0.length c0, Value.func (Fn.func 44) #[] #[Value.pointer (some { block := w1.heap.size + 1, off := 0 })], Value.slice Ag (grp l0 t).length (grp l0 t).length, undef, undef, undef, undef, undef, undef, undef, undef, undef, undef, undef, undef, undef, undef, undef, undef, undef, undef, undef, undef, undef], defers := [] }) ?assign ?body ?done
  case nx =>
    rintro t W m v ⟨h1, h2⟩ _ _
    exact ⟨(Below.heap_setCell (W.drewN m) _ _ _ (by show w.heap.size ≠ w1.heap.size + 1; omega)).trans h1, OutB.set (h2.below (pw_below_drewN (Below.refl _ _) m)) (by omega) (by omega) v⟩
  case dr =>
    rintro t W m ⟨h1, h2⟩
    exact ⟨h1, h2.below (pw_below_drewN (Below.refl _ _) m)⟩
  case h0 => exact ⟨HSQ.out, _, HX1.out, Kd.R_nil _ _ _ _ _⟩
  case assign =>
    intro l t Ag W K hK
    gi_wp2
    exact hK
  case body =>
    rintro l t Ag W ht hCg hbW hszW ⟨hsq, ho⟩
    obtain ⟨g, hg⟩ : ∃ g, grp l0 t = g := ⟨_, rfl⟩
    have HG := Aside0.mk hg
    have hol := outTo_len (visG_len q) l0 t
    have hgl : (restAt l0 t).length ≤ l0.length := restAt_length l0 t
    have hgl2 := runLen_le (restAt l0 t)
    have hgl3 := grp_length l0 t
    rw [hg] at hCg hgl3 ⊢
    have HC := Aside0.mk (Kd.C_below hCg hbW)
    have hqc := (blk_cell1 hsq 0 rfl).1
    have HSW := Aside0.mk hsq
    have HBW2 := Aside0.mk hbW
    have hgn : g.length ≤ 2932031007317 := by omega
    have hroom : (outTo (visG q) l0 t).length + g.length ≤ 2932031007317 := by omega
    have hrun : 0 < g.length := by
      have := runLen_pos' (HN3.out t ht)
      omega
    obtain ⟨out, hout⟩ : ∃ out, outTo (visG q) l0 t = out := ⟨_, rfl⟩
    have HOUT := Aside0.mk hout
    rw [hout] at ho hroom
    obtain ⟨v, hbx, hR⟩ := ho
    have hbc := blk_cell1 hbx 0 (v := v) rfl
    have HV := Aside0.mk hbx
    have HRV := Aside0.mk hR
    have HX := Aside0.mk (indexFunc_calls Ag g.length g q w.heap.size W HC.out (by omega) hqc)
    clear hg hCg hbW hsq hgl3 hol hgl hgl2 hout hbx hR hqc
    obtain ⟨ix, hix⟩ : ∃ ix, idxFrom q g 0 = ix := ⟨_, rfl⟩
    have hbd := idxFrom_bd q g 0
    rw [hix] at HX hbd
    have HIX := Aside0.mk hix
    clear hix
    have HL := Aside0.mk hL
    clear hL
    have hne : w1.heap.size < W.heap.size := (Array.getElem?_eq_some_iff.1 HV.out).1
    have hne2 : w1.heap.size + 1 < W.heap.size := by have := HL.out; omega
    have HNE := Aside0.mk hne
    have HNE2 := Aside0.mk hne2
    clear hne hne2
    by_cases hneg : ix = -1
    · subst hneg
      gi_wp2_with (refine ⟨trivial, ?_⟩; gi_at_call 35; refine (CallsIn.inRound l (callsIn_wide.2 HX.out)).mono ?_; rintro e w3 ⟨rfl, hb⟩; have HB3 := Aside0.mk hb; clear hb)
      refine ⟨keepsOthers_below HB3.out, HB3.out.block _ HNE2.out, HBW2.out.trans (HB3.out.mono HBW2.out.size), (HB3.out.block _ (Array.getElem?_eq_some_iff.1 HSW.out).1).trans HSW.out, ?_⟩
      rw [outTo_succ, HOUT.out, HG.out]
      have e : visG q g = [] := by unfold visG; rw [HIX.out]; rfl
      rw [e, List.append_nil]
      exact OutB.below ⟨_, HV.out, HRV.out⟩ HB3.out
    · obtain ⟨m, rfl⟩ : ∃ m : Nat, ix = (m : Int) := ⟨ix.toNat, by omega⟩
      have hm : m < g.length := by omega
      obtain ⟨x, hx⟩ : ∃ x, rd_T24 g (m : Int) = x := ⟨_, rfl⟩
      have HXX := Aside0.mk hx
      clear hx hneg hbd
      by_cases hx3 : x.f3 = true
      · gi_wp2_with (refine ⟨trivial, ?_⟩; gi_at_call 35; refine (CallsIn.inRound l (callsIn_wide.2 HX.out)).mono ?_; rintro e w3 ⟨rfl, hb⟩; have HB3 := Aside0.mk hb; clear hb; obtain ⟨ad, ea, k0, k1, k2, k3⟩ := at_T24 (Kd.C_below HC.out HB3.out) (m : Int) (Int.natCast_nonneg _) (by omega); subst ea; rw [Int.toNat_natCast] at k0 k1 k2 k3; rw [HXX.out] at k0 k1 k2 k3; rw [hx3] at k3)
        refine ⟨keepsOthers_below HB3.out, HB3.out.block _ HNE2.out, HBW2.out.trans (HB3.out.mono HBW2.out.size), (HB3.out.block _ (Array.getElem?_eq_some_iff.1 HSW.out).1).trans HSW.out, ?_⟩
        rw [outTo_succ, HOUT.out, HG.out]
        have e : visG q g = [] := by unfold visG; rw [HIX.out, if_pos (by omega), HXX.out, if_neg (by rw [hx3]; decide)]
        rw [e, List.append_nil]
        exact OutB.below ⟨_, HV.out, HRV.out⟩ HB3.out
      · have hx3 : x.f3 = false := Bool.eq_false_iff.mpr hx3
        obtain ⟨x0, x1, x2, x3⟩ := x
        obtain rfl : x3 = false := hx3
        gi_wp2_with (refine ⟨trivial, ?_⟩; gi_at_call 35; refine (CallsIn.inRound l (callsIn_wide.2 HX.out)).mono ?_; rintro e w3 ⟨rfl, hb⟩; have HB3 := Aside0.mk hb; clear hb; obtain ⟨ad, ea, k0, k1, k2, k3⟩ := at_T24 (Kd.C_below HC.out HB3.out) (m : Int) (Int.natCast_nonneg _) (by omega); subst ea; rw [Int.toNat_natCast] at k0 k1 k2 k3; rw [HXX.out] at k0 k1 k2 k3; dsimp only at k0 k1 k2 k3)
        obtain ⟨w4, hw4⟩ : ∃ w4, w3.drew = w4 := ⟨_, rfl⟩
        have hb4 : Below W.heap.size W w4 := by rw [← hw4]; exact below_drew HB3.out
        have k0' : w4.cell? (ad.add (m * 4)) = some (.string x0) := by rw [← hw4]; exact k0
        have k1' := k1
        change w3.drew.cell? _ = _ at k1'
        rw [hw4] at k1'
        have k2' := k2
        change w3.drew.cell? _ = _ at k2'
        rw [hw4] at k2'
        have k3' := k3
        change w3.drew.cell? _ = _ at k3'
        rw [hw4] at k3'
        have hbx4 : w4.heap[w1.heap.size]? = some (.cells #[v] 25 (0, 0)) := (hb4.block _ HNE.out).trans HV.out
        have hR4 := Kd.R_below HRV.out hb4
        obtain ⟨Ao, co, rfl⟩ := Kd.R_slice hR4
        have hbc4 := (blk_cell1 hbx4 0 rfl).1
        have hal : (w4.alloc (.cells #[.string x0, .int .u64 x1, .string x2, .bool false] 24)).cell? ⟨w1.heap.size, 0, none⟩ = some (.slice Ao out.length co) := below_cell (below_alloc (Below.refl _ _) _) hbc4
        have HX4 := Aside0.mk hbx4
        have HR4 := Aside0.mk hR4
        have HB4 := Aside0.mk (HBW2.out.trans (hb4.mono HBW2.out.size))
        have HB4W := Aside0.mk hb4
        have HSZ4 := Aside0.mk (Nat.le_trans hszW hb4.size)
        clear k0 k1 k2 k3 hbx4 hR4 hb4
        refine wpIn_mono (Q := fun e a' W' => e = .normal ∧ (KeepsOthers W W' ∧ W'.heap[w1.heap.size + 1]? = W.heap[w1.heap.size + 1]? ∧ Below w.heap.size w W' ∧ W'.heap[w.heap.size]? = some (Obj.cells #[Value.int IntKind.u64 q] 22) ∧ OutB w wl.heap.size w1.heap.size (outTo (visG q) l0 (t + 1)) W')) ?reg ?aft
        case aft =>
          rintro e a' W' ⟨rfl, hp⟩
          gi_wp2
        case reg =>
          refine wpIn_region_any (by kernel_rfl) ?_
          refine wpAnyIn_inRound (F := Fence.wide) l (noDefer_spec (by kernel_rfl)) _ _ _ _ ?_
          refine wpAnyIn_take (i := 1) (v := .slice (some ad) g.length g.length) rfl rfl (by kernel_rfl) (by kernel_rfl) (by kernel_rfl) (fun _ _ _ h => by cases h.1) ⟨Or.inl ⟨by rfl, fun _ => rfl⟩, fun _ => rfl⟩ ?_
          refine wpAnyIn_take (i := 2) (v := .int .i64 (m : Int)) rfl rfl (by kernel_rfl) (by kernel_rfl) (by kernel_rfl) (fun _ _ _ h => by cases h.1) ⟨Or.inl ⟨by rfl, fun _ => rfl⟩, fun _ => rfl⟩ ?_
          refine wpAnyIn_take (i := 3) (v := .pointer (some (ad.add (m * 4)))) rfl rfl (by kernel_rfl) (by kernel_rfl) (by kernel_rfl) (fun _ _ _ h => by cases h.1) ⟨Or.inl ⟨by rfl, ?_⟩, fun _ => rfl⟩ ?_
          · intro w'
            go_simp
          refine wpAnyIn_ready (rs := [0, 4]) (by kernel_rfl) (by simp) ?_
          change AllReadyIn _ _ _ _ _ _ _ _ _ (World.drew _) _
          rw [hw4]
          refine AllReadyIn.cons rfl (fun K hK => ?_) (AllReadyIn.cons rfl (fun K hK => ?_) AllReadyIn.nil)
          all_goals (go_simp; refine hK _ _ ?_; clear hK K)
          refine wpAnyIn_ready (rs := [4]) (by kernel_rfl) (by simp) ?_
          refine AllReadyIn.cons rfl (fun K hK => ?_) AllReadyIn.nil
          rotate_left
          refine wpAnyIn_ready (rs := [0, 5]) (by kernel_rfl) (by simp) ?_
          refine AllReadyIn.cons rfl (fun K hK => ?_) (AllReadyIn.cons rfl (fun K hK => ?_) AllReadyIn.nil)
          all_goals (go_simp; refine hK _ _ ?_; clear hK K)
          refine wpAnyIn_ready (rs := [5]) (by kernel_rfl) (by simp) ?_
          rotate_left
          refine wpAnyIn_ready (rs := [0]) (by kernel_rfl) (by simp) ?_
          rotate_left
          refine wpAnyIn_ready (rs := [5]) (by kernel_rfl) (by simp) ?_
          all_goals (refine AllReadyIn.cons rfl (fun K hK => ?_) AllReadyIn.nil)
          all_goals (go_simp; refine hK _ _ ?_; clear hK K)
          all_goals
            refine wpAnyIn_ready (rs := [6]) (by kernel_rfl) (by simp) ?_
            refine AllReadyIn.cons rfl (fun K hK => ?_) AllReadyIn.nil
            refine Eq.mpr (if_pos (by rfl)) ?_
            refine append_rows_opIn k24 (Rr := cellP) (w0 := w) w.heap.size _ rfl (.tmp 27) (.tmp 32) 25 24 (.agg #[(.string ⟨#[]⟩), (.int .u64 0), (.string ⟨#[]⟩), (.bool false)]) 48 rfl Try.underlying25 info24 rfl (by decide) (by decide) (.slice Ao out.length co) out [⟨x0, x1, x2, false⟩] (some ⟨w4.heap.size, 0, none⟩) 1 1 (fun k => wl.heap.size ≤ k) (fun _ => False) rfl rfl (Kd.R_alloc HR4.out _) (new_cell w4 ⟨x0, x1, x2, false⟩) (fun x_ cs_ h_ => by rw [h_]; exact k24_mkM _ _ _ x_) (fun _ h_ => h_.elim) (fun k_ hk_ => by have := HSZ4.out; rw [World.size_alloc] at hk_; omega) (below_alloc HB4.out _) (by have := HB4.out.size; rw [World.size_alloc]; omega) (by omega) ?_
            intro v2 w5 ho2 hb2 hg2 hat2
            refine hK _ _ ?_
            clear hK K
            have hnr : ∀ k, k < wl.heap.size → some k ≠ (Value.slice Ao out.length co).ownBlock := fun k hk e => by have := HR4.out.1 k e.symm; omega
            have hold : ∀ k, k < wl.heap.size → w5.heap[k]? = w4.heap[k]? := fun k hk => (hg2.block k (by rw [World.size_alloc]; have := HSZ4.out; omega) (hnr k hk)).trans (Below.heap_alloc _ _ _ (by have := HSZ4.out; omega))
            have hbx5 := (hold w1.heap.size (by have := HL.out; omega)).trans HX4.out
            have hcl5 := (blk_cell1 hbx5 0 rfl).1
            have hfr5 := (blk_cell1 hbx5 0 rfl).2
            have hko5 : KeepsOthers W w5 := ((keepsOthers_below HB4W.out).trans (KeepsOthers.alloc _ _)).trans (KeepsOthers.of_grownBy hg2 (fun j o hj ho => by
              obtain ⟨cells, hc⟩ := Kd.R_typed (Kd.R_alloc HR4.out (.cells #[.string x0, .int .u64 x1, .string x2, .bool false] 24)) j hj
              rw [hc] at ho
              cases ho
              rfl))
            have HO2 := Aside0.mk (OutB.put ((Below.heap_alloc w4 (.cells #[.string x0, .int .u64 x1, .string x2, .bool false] 24) _ (by have := HSZ4.out; have := HL.out; omega)).trans HX4.out) (Kd.R_alloc HR4.out _) (by have := HL.out; omega) ho2 hg2)
            have HB2 := Aside0.mk hb2
            have HOLD := Aside0.mk hold
            have HKO := Aside0.mk hko5
            obtain ⟨A2, c2, rfl⟩ := Kd.R_slice ho2
            clear ho2 hb2 hg2 hat2 hnr hold hko5 hbx5 hal
            refine wpAnyIn_ready (rs := [7]) (by kernel_rfl) (by simp) ?_
            refine AllReadyIn.cons rfl (fun K hK => ?_) AllReadyIn.nil
            go_simp
            refine hK _ _ ?_
            clear hK K
            refine wpAnyIn_done (by kernel_rfl) ?_ _
            refine ⟨rfl, HKO.out.trans (KeepsOthers.setCell _ _ _), ?_, ?_, ?_, ?_⟩
            · exact (Below.heap_setCell _ _ _ _ (by show w1.heap.size + 1 ≠ w1.heap.size; omega)).trans ((HOLD.out _ (by have := HL.out; omega)).trans (HB4W.out.block _ HNE2.out))
            · exact HB2.out.setCell (p := ⟨w1.heap.size, 0, none⟩) (by show w.heap.size ≤ w1.heap.size; omega) _
            · exact (Below.heap_setCell _ _ _ _ (by show w.heap.size ≠ w1.heap.size; omega)).trans ((HOLD.out _ (by have := HL.out; omega)).trans ((HB4W.out.block _ (Array.getElem?_eq_some_iff.1 HSW.out).1).trans HSW.out))
            · have e : visG q g = [⟨x0, x1, x2, false⟩] := by unfold visG; rw [HIX.out, if_pos (by omega), HXX.out, if_pos rfl]
              rw [outTo_succ, HOUT.out, HG.out, e]
              have h := HO2.out
              rw [show (out ++ [(⟨x0, x1, x2, false⟩ : S24)]).length = out.length + 1 by simp] at h
              exact h
  case done =>
    rintro D W hD hbW ⟨hsq, v, hbx, hR⟩ hK
    have hbc := (blk_cell1 hbx 0 rfl).1
    have HBW2 := Aside0.mk hbW
    have HKD := Aside0.mk hK
    have HRV := Aside0.mk hR
    clear hsq hbx hR hbW hK
    gi_wp2
    refine leavesMarks [D] W (by simp) (fun D' hD' => by obtain rfl := List.mem_singleton.1 hD'; exact HKD.out) (fun W' hs => ?_)
    refine ⟨_, results_tmp rfl _ _ _, _, rfl, ?_, HBW2.out.trans (hs.below (fun D' hD' => by obtain rfl := List.mem_singleton.1 hD'; have := HBW.out.size; omega))⟩
    rw [outAll_eq (by unfold visG; rfl) l0 N HN1.out HN2.out]
    refine Kd.R_mono (Kd.R_move (Kd.R_bound HRV.out) (fun k hk => hs.block k (fun hm => ?_))) (fun _ _ => trivial)
    obtain rfl := List.mem_singleton.1 hm
    obtain ⟨_, _, _, qq, _, cells, hc⟩ := hk
    rw [HKD.out] at hc
    cases hc
def merge_Visible.f (l0 : List S24) (q : Int) : Option (List S24) := if l0.length ≤ 2932031007317 then (if sortedF l0 = true then some (outAll (visG q) l0) else some []) else none
set_option maxHeartbeats 4000000 in
set_option maxRecDepth 100000 in
theorem merge_Visible.calls (A0 : Option Addr) (c0 : Nat) (l0 : List S24) (q : Int) (r : List S24) (w : World) (hr0 : Kd.C k24 w A0 l0.length l0) (hc0 : l0.length ≤ c0) (h : merge_Visible.f l0 q = some r) :
    Calls Try.prog 21 #[.slice A0 l0.length c0, .int .u64 q] w fun e w' => ∃ v0_ : Value, e = .returned v0_ ∧ Kd.R k24 24 w' w.heap.size (fun _ => True) v0_ r ∧ Below w.heap.size w w' := by
  unfold merge_Visible.f at h
  by_cases hl : l0.length ≤ 2932031007317
  rotate_left
  · rw [if_neg hl] at h; cases h
  rw [if_pos hl] at h
  by_cases hs : sortedF l0 = true
  · rw [if_pos hs] at h
    obtain rfl := Option.some.inj h
    exact visible_core A0 c0 l0 q w hr0 hc0 hl hs
  · rw [if_neg hs] at h
    obtain rfl := Option.some.inj h
    have HR0 := Aside0.mk hr0
    have HS := Aside0.mk (sorted_val l0 (by omega))
    rw [Bool.eq_false_iff.mpr hs] at HS
    clear hr0 hs h
    go_enter Try.func21, Try.ntmps21
    go_wp2_with (go_at_call 14; refine (merge_Sorted.calls _ A0 c0 l0 false _ (Kd.C_below HR0.out (below_alloc (Below.refl _ _) _)) hc0 HS.out).mono ?_; rintro e w1 ⟨rfl, hb⟩; have HB1 := Aside0.mk hb; clear hb)
    go_ret
    exact ⟨_, rfl, Kd.R_nil _ _ _ _ _, (below_alloc (Below.refl _ _) _).trans (HB1.out.mono (by simp))⟩
end Go.Proofs.Ytdpnhnfhobmopaa.P
