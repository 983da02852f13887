/- Contracts proved by hand: merge.Cut. -/
import Derived.Test.YtdpnhnfhobmopaaH3
namespace Go.Proofs.Ytdpnhnfhobmopaa.P
open Go.RowKit Go.Shelf Go.Proofs.YtdpnhnfhobmopaaW.PrintWords Go.Proofs.YtdpnhnfhobmopaaW.PrintLast Go.Proofs.YtdpnhnfhobmopaaW.PrintMore
attribute [local go_sem] Oper.semAt_some
set_option linter.unusedVariables false
set_option linter.unusedSimpArgs false

theorem append_S_in {P : Program} {ops : Array Oper} {rest : List Oper} {o : Oper} {a : Act} {W : World} {F : Fence} {n : Nat} {α : Type} (d : Kd α) {w0 : World} (base : Nat) {Q : Exit → Act → World → Prop} (hgd : o.guard = none) (s x : Operand) (t e : TypeId) (z : Value) (bytes : Nat)
    (ho : o.op = .call { callee := .builtin .append, args := #[s, x], argTypes := #[t, t] })
    (ht : P.underlying t = some (.slice e)) (hinfo : (P.info? e).map (fun i => (i.zero, i.size, i.bytes)) = some (some z, d.sz, bytes)) (hz : z.cells.size = d.sz) (hs0 : 0 < d.sz) (hb0 : 0 < bytes)
    (v : Value) (xs : List α) (p : α) (cs : List Value) (ok okp : Nat → Prop) (hs : a.eval s = v) (hx : a.eval x = .slice (some ⟨W.heap.size, 0, none⟩) 1 1) (hp : d.M W base okp p cs) (hokp : ∀ k, okp k → ok k ∧ some k ≠ v.ownBlock) (hfresh : ∀ k, W.heap.size ≤ k → ok k)
    (HO : Kd.S d e W base (fun k => ok k ∧ ¬ okp k) v xs) (HB : Below base w0 W) (hbase : base ≤ W.heap.size) (hl : (xs.length + 1) * bytes ≤ 140737488355328)
    (h : ∀ v1 w1, Kd.S d e w1 base ok v1 (xs ++ [p]) → Below base w0 w1 → W.grownBy w1 v.ownBlock → (v1.ownBlock = v.ownBlock ∨ ∃ b, v1.ownBlock = some b ∧ W.heap.size ≤ b) → wpListIn F n P ops Q rest (a.put o.dst v1) w1) :
    wpListIn F n P ops Q (o :: rest) a (W.alloc (.cells cs.toArray e)) := by
  refine wpListIn_plain hgd fun K hK => ?_
  refine oper_in_append Q ho ?_
  have hw : Region.wanted o (yielded #[] a.tmps) = true := by simp [Region.wanted, hgd]
  have := Kd.S_append_step (Q := fun _ _ _ => False) (ops := #[]) (Kc := K) d base hw s x t e z bytes ho ht hinfo hz hs0 hb0 v xs p cs ok okp hs hx hp hokp hfresh HO HB hbase hl (fun v1 w1 h1 h2 h3 h4 => hK _ _ (h v1 w1 h1 h2 h3 h4))
  rwa [if_pos hw] at this
/-- How many bytes cells take. -/
def gsize : List S24 → Nat
  | [] => 0
  | x :: l => x.f0.size + x.f2.size + 16 + gsize l
theorem gsize_append : ∀ a b : List S24, gsize (a ++ b) = gsize a + gsize b
  | [], b => by simp [gsize]
  | x :: a, b => by simp only [List.cons_append, gsize, gsize_append a b]; omega
def cutStep (size : Int) (st : List (List S24) × List S24) (g : List S24) : List (List S24) × List S24 :=
  if g = [] then st else if st.2 ≠ [] ∧ (gsize g : Int) > size - gsize st.2 then (st.1 ++ [st.2], g) else (st.1, st.2 ++ g)
def cutTo (size : Int) (l : List S24) : Nat → List (List S24) × List S24
  | 0 => ([], [])
  | t + 1 => cutStep size (cutTo size l t) (grp l t)
def cutF (size : Int) (l : List S24) : List (List S24) := if (cutTo size l l.length).2 = [] then (cutTo size l l.length).1 else (cutTo size l l.length).1 ++ [(cutTo size l l.length).2]
theorem cutTo_all (size : Int) (l : List S24) (t : Nat) : (cutTo size l t).1.flatten ++ (cutTo size l t).2 ++ restAt l t = l ∧ ∀ p ∈ (cutTo size l t).1, p ≠ [] := by
  induction t with
  | zero => simp [cutTo, restAt]
  | succ t ih =>
    obtain ⟨h1, h2⟩ := ih
    have hr : grp l t ++ restAt l (t + 1) = restAt l t := List.take_append_drop _ _
    show (cutStep size (cutTo size l t) (grp l t)).1.flatten ++ (cutStep size (cutTo size l t) (grp l t)).2 ++ restAt l (t + 1) = l ∧ ∀ p ∈ (cutStep size (cutTo size l t) (grp l t)).1, p ≠ []
    unfold cutStep
    by_cases hg : grp l t = []
    · rw [if_pos hg]
      rw [hg, List.nil_append] at hr
      rw [hr]
      exact ⟨h1, h2⟩
    · rw [if_neg hg]
      split
      · rename_i hc
        refine ⟨?_, ?_⟩
        · rw [List.flatten_append, List.flatten_cons, List.flatten_nil, List.append_nil, List.append_assoc _ (grp l t), hr]
          exact h1
        · intro p hp
          rcases List.mem_append.1 hp with hp | hp
          · exact h2 p hp
          · rw [List.mem_singleton.1 hp]; exact hc.1
      · refine ⟨?_, h2⟩
        rw [← List.append_assoc, List.append_assoc _ (grp l t), hr]
        exact h1
theorem flat_len : ∀ (L : List (List S24)), (∀ p ∈ L, p ≠ []) → L.length ≤ L.flatten.length
  | [], _ => Nat.le_refl _
  | p :: L, h => by
    have h1 := flat_len L (fun q hq => h q (List.mem_cons_of_mem _ hq))
    have h2 : 0 < p.length := List.length_pos_iff.2 (h p (by simp))
    rw [List.flatten_cons, List.length_append, List.length_cons]
    omega
theorem cutTo_bd (size : Int) (l : List S24) (t : Nat) : (cutTo size l t).1.length + (cutTo size l t).2.length + (grp l t).length ≤ l.length ∧ gsize (cutTo size l t).2 + gsize (grp l t) ≤ gsize l := by
  obtain ⟨h1, h2⟩ := cutTo_all size l t
  have h3 := flat_len _ h2
  have hr : grp l t ++ restAt l (t + 1) = restAt l t := List.take_append_drop _ _
  rw [← hr] at h1
  constructor
  · have := congrArg List.length h1
    simp only [List.length_append] at this
    omega
  · have := congrArg gsize h1
    simp only [gsize_append] at this
    omega
theorem cutTo_end (size : Int) (l : List S24) (N : Nat) (hN : restAt l N = []) : ∀ d, cutTo size l (N + d) = cutTo size l N ∧ restAt l (N + d) = [] := by
  intro d
  induction d with
  | zero => exact ⟨rfl, hN⟩
  | succ d ih =>
    obtain ⟨h1, h2⟩ := ih
    have hg : grp l (N + d) = [] := by unfold grp; rw [h2]; rfl
    refine ⟨?_, ?_⟩
    · show cutStep size (cutTo size l (N + d)) (grp l (N + d)) = _
      rw [hg, h1]
      unfold cutStep
      rw [if_pos rfl]
    · show (restAt l (N + d)).drop _ = []
      rw [h2]
      exact List.drop_nil
theorem cutF_eq (size : Int) (l : List S24) (N : Nat) (hle : N ≤ l.length) (hN : restAt l N = []) : cutF size l = if (cutTo size l N).2 = [] then (cutTo size l N).1 else (cutTo size l N).1 ++ [(cutTo size l N).2] := by
  have := (cutTo_end size l N hN (l.length - N)).1
  rw [show N + (l.length - N) = l.length by omega] at this
  unfold cutF
  rw [this]
/-- The variables 'out', 'now' and 'room', in memory. -/
structure CutM (w0 : World) (L B : Nat) (out : List (List S24)) (now : List S24) (room : Int) (Ao : Option Addr) (co : Nat) (An : Option Addr) (cn : Nat) (W : World) : Prop where
  bo : W.heap[B]? = some (.cells #[.slice Ao out.length co] 32 (0, 0))
  bn : W.heap[B + 1]? = some (.cells #[.slice An now.length cn] 25 (0, 0))
  br : W.heap[B + 2]? = some (.cells #[.int .i64 room] 3 (0, 0))
  S : Kd.S (Kd.slice 24 k24) 25 W w0.heap.size (fun k => L ≤ k ∧ some k ≠ (Value.slice An now.length cn).ownBlock) (.slice Ao out.length co) out
  R : Kd.R k24 24 W w0.heap.size (fun k => L ≤ k) (.slice An now.length cn) now
theorem CutM.move {w0 W W' : World} {L B : Nat} {out : List (List S24)} {now : List S24} {room : Int} {Ao An : Option Addr} {co cn : Nat} (h : CutM w0 L B out now room Ao co An cn W) (h1 : W'.heap[B]? = W.heap[B]?) (h2 : W'.heap[B + 1]? = W.heap[B + 1]?) (h3 : W'.heap[B + 2]? = W.heap[B + 2]?) (hm : ∀ k, L ≤ k → k < W.heap.size → (∃ cs t, W.heap[k]? = some (.cells cs t (0, 0))) → W'.heap[k]? = W.heap[k]?) : CutM w0 L B out now room Ao co An cn W' := by
  refine ⟨h1.trans h.bo, h2.trans h.bn, h3.trans h.br, ?_, ?_⟩
  · refine Kd.S_mono (Kd.S_move (Kd.S_bound h.S) (fun k hk => ?_)) (fun k hk => hk.1)
    obtain ⟨⟨h1, _⟩, _, h3, q, _, cs, hc⟩ := hk
    exact hm k h1 h3 ⟨cs, q, hc⟩
  · refine Kd.R_mono (Kd.R_move (Kd.R_bound h.R) (fun k hk => ?_)) (fun k hk => hk.1)
    obtain ⟨h1, _, h3, q, _, cs, hc⟩ := hk
    exact hm k h1 h3 ⟨cs, q, hc⟩
theorem CutM.below {w0 W W' : World} {L B : Nat} {out : List (List S24)} {now : List S24} {room : Int} {Ao An : Option Addr} {co cn : Nat} (h : CutM w0 L B out now room Ao co An cn W) (hb : Below W.heap.size W W') : CutM w0 L B out now room Ao co An cn W' :=
  h.move (hb.block _ (Array.getElem?_eq_some_iff.1 h.bo).1) (hb.block _ (Array.getElem?_eq_some_iff.1 h.bn).1) (hb.block _ (Array.getElem?_eq_some_iff.1 h.br).1) (fun k _ hk _ => hb.block k hk)
theorem CutM.set {w0 W : World} {L B : Nat} {out : List (List S24)} {now : List S24} {room : Int} {Ao An : Option Addr} {co cn : Nat} (h : CutM w0 L B out now room Ao co An cn W) {b : Nat} (hb : b < L) (n0 : b ≠ B) (n1 : b ≠ B + 1) (n2 : b ≠ B + 2) (v : Value) : CutM w0 L B out now room Ao co An cn (W.setCell ⟨b, 0, none⟩ v) :=
  h.move (Below.heap_setCell _ _ _ _ (fun e => n0 e.symm)) (Below.heap_setCell _ _ _ _ (fun e => n1 e.symm)) (Below.heap_setCell _ _ _ _ (fun e => n2 e.symm)) (fun k hk _ _ => Below.heap_setCell _ _ _ _ (by show k ≠ b; omega))
theorem CutM.room {w0 W : World} {L B : Nat} {out : List (List S24)} {now : List S24} {room : Int} {Ao An : Option Addr} {co cn : Nat} (h : CutM w0 L B out now room Ao co An cn W) (hL : B + 2 < L) (r : Int) : CutM w0 L B out now r Ao co An cn (W.setCell ⟨B + 2, 0, none⟩ (.int .i64 r)) := by
  have hk : ∀ k, L ≤ k → (W.setCell ⟨B + 2, 0, none⟩ (.int .i64 r)).heap[k]? = W.heap[k]? := fun k hk => Below.heap_setCell _ _ _ _ (by show k ≠ B + 2; omega)
  exact ⟨(Below.heap_setCell _ _ _ _ (by show B ≠ B + 2; omega)).trans h.bo, (Below.heap_setCell _ _ _ _ (by show B + 1 ≠ B + 2; omega)).trans h.bn, blk_set h.br 0 _, Kd.S_step h.S (fun k h1 _ => hk k h1.1), Kd.R_step h.R (fun k h1 _ => hk k h1)⟩
/-- now = nil, behind out = append(out, now). -/
theorem CutM.flush {w0 W w1 : World} {L B : Nat} {out : List (List S24)} {now : List S24} {room : Int} {Ao An : Option Addr} {co cn : Nat} (h : CutM w0 L B out now room Ao co An cn W) (hL : B + 2 < L) {A2 : Option Addr} {c2 : Nat}
    (hs : Kd.S (Kd.slice 24 k24) 25 w1 w0.heap.size (fun k => L ≤ k) (.slice A2 (out ++ [now]).length c2) (out ++ [now])) (hg : W.grownBy w1 (Value.slice Ao out.length co).ownBlock) :
    CutM w0 L B (out ++ [now]) [] room A2 c2 none 0 ((w1.setCell ⟨B, 0, none⟩ (.slice A2 (out ++ [now]).length c2)).setCell ⟨B + 1, 0, none⟩ (.slice none 0 0)) := by
  have hnr : ∀ k, k < L → some k ≠ (Value.slice Ao out.length co).ownBlock := fun k hk e => by have := ((Kd.S_R h.S).1 k e.symm).1; omega
  have ho : w1.heap[B]? = W.heap[B]? := hg.block _ (Array.getElem?_eq_some_iff.1 h.bo).1 (hnr _ (by omega))
  have hn : w1.heap[B + 1]? = W.heap[B + 1]? := hg.block _ (Array.getElem?_eq_some_iff.1 h.bn).1 (hnr _ (by omega))
  have hr : w1.heap[B + 2]? = W.heap[B + 2]? := hg.block _ (Array.getElem?_eq_some_iff.1 h.br).1 (hnr _ (by omega))
  refine ⟨?_, ?_, ?_, ?_, Kd.R_nil _ _ _ _ _⟩
  · exact (Below.heap_setCell _ _ _ _ (by show B ≠ B + 1; omega)).trans (blk_set (ho.trans h.bo) 0 _)
  · exact blk_set ((Below.heap_setCell _ _ _ _ (by show B + 1 ≠ B; omega)).trans (hn.trans h.bn)) 0 _
  · exact (Below.heap_setCell _ _ _ _ (by show B + 2 ≠ B + 1; omega)).trans ((Below.heap_setCell _ _ _ _ (by show B + 2 ≠ B; omega)).trans (hr.trans h.br))
  · refine Kd.S_mono (Kd.S_step hs (fun k hk _ => (Below.heap_setCell _ _ _ _ (by show k ≠ B + 1; omega)).trans (Below.heap_setCell _ _ _ _ (by show k ≠ B; omega)))) (fun k hk => ⟨hk, by simp [Value.ownBlock]⟩)
/-- now = append(now, ..). -/
theorem CutM.grow {w0 W w1 : World} {L B : Nat} {out : List (List S24)} {now : List S24} {room : Int} {Ao An : Option Addr} {co cn : Nat} (h : CutM w0 L B out now room Ao co An cn W) (hL : B + 2 < L) {ys : List S24} {A2 : Option Addr} {c2 : Nat}
    (hr : Kd.R k24 24 w1 w0.heap.size (fun k => L ≤ k) (.slice A2 ys.length c2) ys) (hg : W.grownBy w1 (Value.slice An now.length cn).ownBlock)
    (hat : (Value.slice A2 ys.length c2).ownBlock = (Value.slice An now.length cn).ownBlock ∨ ∃ b, (Value.slice A2 ys.length c2).ownBlock = some b ∧ W.heap.size ≤ b) :
    CutM w0 L B out ys room Ao co A2 c2 (w1.setCell ⟨B + 1, 0, none⟩ (.slice A2 ys.length c2)) := by
  have hnr : ∀ k, k < L → some k ≠ (Value.slice An now.length cn).ownBlock := fun k hk e => by have := h.R.1 k e.symm; omega
  have ho : w1.heap[B]? = W.heap[B]? := hg.block _ (Array.getElem?_eq_some_iff.1 h.bo).1 (hnr _ (by omega))
  have hn : w1.heap[B + 1]? = W.heap[B + 1]? := hg.block _ (Array.getElem?_eq_some_iff.1 h.bn).1 (hnr _ (by omega))
  have hrr : w1.heap[B + 2]? = W.heap[B + 2]? := hg.block _ (Array.getElem?_eq_some_iff.1 h.br).1 (hnr _ (by omega))
  have hset : ∀ k, L ≤ k → (w1.setCell ⟨B + 1, 0, none⟩ (.slice A2 ys.length c2)).heap[k]? = w1.heap[k]? := fun k hk => Below.heap_setCell _ _ _ _ (by show k ≠ B + 1; omega)
  refine ⟨?_, ?_, ?_, ?_, Kd.R_step hr (fun k hk _ => hset k hk)⟩
  · exact (Below.heap_setCell _ _ _ _ (by show B ≠ B + 1; omega)).trans (ho.trans h.bo)
  · exact blk_set (hn.trans h.bn) 0 _
  · exact (Below.heap_setCell _ _ _ _ (by show B + 2 ≠ B + 1; omega)).trans (hrr.trans h.br)
  · exact Kd.S_step (Kd.S_after h.S hg hat) (fun k hk _ => hset k hk.1)
/-- In a round's body: what has become of the world since the round began. -/
structure BodyC (w W w' : World) (L B : Nat) : Prop where
  below : Below w.heap.size w w'
  ko : KeepsOthers W w'
  sz : L ≤ w'.heap.size
  fix : ∀ k, k < L → k ≠ B → k ≠ B + 1 → k ≠ B + 2 → w'.heap[k]? = W.heap[k]?
theorem BodyC.next {w W w' w2 : World} {L B : Nat} (h : BodyC w W w' L B) (hb : Below w'.heap.size w' w2) : BodyC w W w2 L B :=
  ⟨h.below.trans (hb.mono h.below.size), h.ko.trans (keepsOthers_below hb), Nat.le_trans h.sz hb.size, fun k hk n0 n1 n2 => (hb.block k (Nat.lt_of_lt_of_le hk h.sz)).trans (h.fix k hk n0 n1 n2)⟩
theorem BodyC.set {w W w' : World} {L B b : Nat} (h : BodyC w W w' L B) (hw : w.heap.size ≤ b) (hb : b = B ∨ b = B + 1 ∨ b = B + 2) (v : Value) : BodyC w W (w'.setCell ⟨b, 0, none⟩ v) L B :=
  ⟨h.below.setCell (p := ⟨b, 0, none⟩) hw _, h.ko.trans (KeepsOthers.setCell _ _ _), by simpa using h.sz, fun k hk n0 n1 n2 => (Below.heap_setCell _ _ _ _ (by show k ≠ b; omega)).trans (h.fix k hk n0 n1 n2)⟩
theorem BodyC.grown {w W w' w1 : World} {L B : Nat} (h : BodyC w W w' L B) {row : Option Nat} (hg : w'.grownBy w1 row) (hb1 : Below w.heap.size w w1) (hrow : ∀ k, row = some k → L ≤ k) (hty : ∀ k, row = some k → ∃ cs t, w'.heap[k]? = some (.cells cs t (0, 0))) : BodyC w W w1 L B :=
  ⟨hb1, h.ko.trans (KeepsOthers.of_grownBy hg (fun j o hj ho => by obtain ⟨cs, t, hc⟩ := hty j hj; rw [hc] at ho; cases ho; rfl)), Nat.le_trans h.sz hg.size, fun k hk n0 n1 n2 => (hg.block k (Nat.lt_of_lt_of_le hk h.sz) (fun e => by have := hrow k e.symm; omega)).trans (h.fix k hk n0 n1 n2)⟩
def CutB (w0 : World) (L B : Nat) (size : Int) (st : List (List S24) × List S24) (W : World) : Prop := ∃ (room : Int) (Ao : Option Addr) (co : Nat) (An : Option Addr) (cn : Nat), (st.2 ≠ [] → room = size - gsize st.2) ∧ CutM w0 L B st.1 st.2 room Ao co An cn W
theorem ownFrom_cutB {β : Type} (w0 : World) (L B : Nat) (size : Int) (f : β → List (List S24) × List S24) : OwnFrom L (fun s W => CutB w0 L B size (f s) W) := fun s W W' row h hg hr => by
  obtain ⟨room, Ao, co, An, cn, h0, h⟩ := h
  have hk : ∀ (k : Nat) cs t, W.heap[k]? = some (.cells cs t (0, 0)) → W'.heap[k]? = W.heap[k]? := fun k cs t hc => hg.block k (Array.getElem?_eq_some_iff.1 hc).1 (fun e => by
    obtain ⟨_, o, ho, hn⟩ := hr k e.symm
    rw [hc] at ho
    cases ho
    cases hn)
  exact ⟨room, Ao, co, An, cn, h0, h.move (hk _ _ _ h.bo) (hk _ _ _ h.bn) (hk _ _ _ h.br) (fun k _ _ hc => by obtain ⟨cs, t, hc⟩ := hc; exact hk k cs t hc)⟩
set_option maxHeartbeats 4000000 in
set_option maxRecDepth 100000 in
theorem cut_core (A0 : Option Addr) (c0 : Nat) (l0 : List S24) (size : Int) (hz1 : 1 ≤ size) (hz2 : size ≤ 9223372036854775807) (w : World) (hr0 : Kd.C k24 w A0 l0.length l0) (hc0 : l0.length ≤ c0) (hl : l0.length ≤ 2932031007317) (hgs : gsize l0 ≤ 1152921504606846976) (hs : sortedF l0 = true) :
    Calls Try.prog 25 #[.slice A0 l0.length c0, .int .i64 size] w fun e w' => ∃ v0_ : Value, e = .returned v0_ ∧ Kd.S (Kd.slice 24 k24) 25 w' w.heap.size (fun _ => True) v0_ (cutF size l0) ∧ Below w.heap.size w w' := by
  have HR0 := Aside0.mk hr0
  have HS := Aside0.mk (sorted_val l0 (by omega))
  rw [hs] at HS
  obtain ⟨N, hN1, hN2, hN3⟩ := exists_N l0.length l0 (Nat.le_refl _)
  have HN1 := Aside0.mk hN1
  have HN2 := Aside0.mk hN2
  have HN3 := Aside0.mk hN3
  have hz3 : decide (size < 1) = false := decide_eq_false (by omega)
  clear hr0 hs hN1 hN2 hN3
  refine (callsIn_wide (n := 9)).1 ?_
  refine callsIn_of_wp_marks Try.func25 rfl trivial ?_ rfl
  simp only [Try.ntmps25, List.size_toArray, List.length_cons, List.length_nil, Nat.reduceAdd, Nat.reduceSub, Array.replicate_succ, Array.replicate_zero, List.push_toArray, List.append_toArray, List.nil_append, List.cons_append]
  gi_wp2_with (first | (refine ⟨trivial, ?_⟩; gi_at_call 14; refine (callsIn_wide.2 (merge_Sorted.calls _ A0 c0 l0 true _ (Kd.C_below HR0.out (below_alloc (Below.refl _ _) _)) hc0 HS.out)).mono ?_; rintro e w1 ⟨rfl, hb⟩; have HB1 := Aside0.mk hb; have hbz := (blk_cell1 ((hb.block w.heap.size (by simp)).trans (alloc_heap_new' w (.cells #[.int .i64 size] 3))) 0 rfl).1; clear hb) | (refine ⟨trivial, ?_⟩; gi_at_call 34; refine (callsIn_wide.2 (keys_calls A0 l0.length c0 _)).mono ?_; rintro e w2 ⟨rfl, rfl⟩))
  have hw1 := HB1.out.size
  simp only [World.size_alloc] at hw1
  have hbxz : w1.heap[w.heap.size]? = some (.cells #[.int .i64 size] 3 (0, 0)) := (HB1.out.block _ (by simp)).trans (alloc_heap_new' w _)
  have hbl : Below w.heap.size w w1 := (below_alloc (Below.refl _ _) _).trans (HB1.out.mono (by simp))
  obtain ⟨B, hB⟩ : ∃ B, w1.heap.size = B := ⟨_, rfl⟩
  obtain ⟨wl, hwl⟩ : ∃ wl, ((((w1.alloc (Obj.cells #[Value.slice none 0 0] 32)).alloc (Obj.cells #[Value.slice none 0 0] 25)).alloc (Obj.cells #[Value.int IntKind.i64 0] 3)).alloc (Obj.cells #[Value.slice A0 l0.length c0] 25)) = wl := ⟨_, rfl⟩
  have hL : wl.heap.size = B + 4 := by rw [← hwl, ← hB]; simp
  have hs0 : wl.heap[w.heap.size]? = some (.cells #[.int .i64 size] 3 (0, 0)) := by
    rw [← hwl]; exact (Below.heap_alloc _ _ _ (by simp; omega)).trans ((Below.heap_alloc _ _ _ (by simp; omega)).trans ((Below.heap_alloc _ _ _ (by simp; omega)).trans ((Below.heap_alloc _ _ _ (by omega)).trans hbxz)))
  have hb0 : wl.heap[B]? = some (.cells #[.slice none 0 0] 32 (0, 0)) := by
    rw [← hwl, ← hB]; exact (Below.heap_alloc _ _ _ (by simp; omega)).trans ((Below.heap_alloc _ _ _ (by simp; omega)).trans ((Below.heap_alloc _ _ _ (by simp)).trans (alloc_heap_new' w1 _)))
  have hb1 : wl.heap[B + 1]? = some (.cells #[.slice none 0 0] 25 (0, 0)) := by
    rw [← hwl, ← hB]
    have h := alloc_heap_new' (w1.alloc (.cells #[.slice none 0 0] 32)) (.cells #[.slice none 0 0] 25)
    rw [World.size_alloc] at h
    exact (Below.heap_alloc _ _ _ (by simp)).trans ((Below.heap_alloc _ _ _ (by simp)).trans h)
  have hb2 : wl.heap[B + 2]? = some (.cells #[.int .i64 0] 3 (0, 0)) := by
    rw [← hwl, ← hB]
    have h := alloc_heap_new' ((w1.alloc (.cells #[.slice none 0 0] 32)).alloc (.cells #[.slice none 0 0] 25)) (.cells #[.int .i64 0] 3)
    rw [World.size_alloc, World.size_alloc] at h
    exact (Below.heap_alloc _ _ _ (by simp)).trans h
  have hb3 : wl.heap[B + 1 + 1 + 1]? = some (.cells #[.slice A0 l0.length c0] 25 (0, 0)) := by
    rw [← hwl, ← hB]
    have h := alloc_heap_new' (((w1.alloc (.cells #[.slice none 0 0] 32)).alloc (.cells #[.slice none 0 0] 25)).alloc (.cells #[.int .i64 0] 3)) (.cells #[.slice A0 l0.length c0] 25)
    rw [World.size_alloc, World.size_alloc, World.size_alloc] at h
    exact h
  have hbw : Below w.heap.size w wl := by rw [← hwl]; exact below_alloc (below_alloc (below_alloc (below_alloc hbl _) _) _) _
  have hS : OwnFrom wl.heap.size (fun (t : Nat) (W : World) => W.heap[w.heap.size]? = some (.cells #[.int .i64 size] 3 (0, 0)) ∧ CutB w wl.heap.size B size (cutTo size l0 t) W) :=
    OwnFrom.and (fun s X Y row hx hg hr => (hg.block _ (Array.getElem?_eq_some_iff.1 hx).1 (fun e => by have := (hr _ e.symm).1; omega)).trans hx) (ownFrom_cutB w wl.heap.size B size _)
  rw [hwl, hB]
  have HSQ := Aside0.mk hs0
  have HX0 := Aside0.mk hb0
  have HX1 := Aside0.mk hb1
  have HX2 := Aside0.mk hb2
  have HX3 := Aside0.mk hb3
  have HBW := Aside0.mk hbw
  have HOF := Aside0.mk hS
  have hwB : w.heap.size < B := by omega
  clear hs0 hb0 hb1 hb2 hb3 hbw hS hwl hbxz hbl hw1 hB hbz
  refine range_keys 9 (by omega) w A0 c0 l0 HR0.out hc0 (B + 1 + 1 + 1) (by omega) (by omega) rfl rfl N HN2.out HN3.out
    (fun t W => W.heap[w.heap.size]? = some (.cells #[.int .i64 size] 3 (0, 0)) ∧ CutB w wl.heap.size B size (cutTo size l0 t) W)
    (fun t W => W.heap[w.heap.size]? = some (.cells #[.int .i64 size] 3 (0, 0)) ∧ CutB w wl.heap.size B size (cutTo size l0 (t + 1)) W)
    HOF.out (fun t => HOF.out (t + 1)) ?nx ?dr ?h0 HBW.out HX3.out
    (fun t Ag => { tmps := #[Value.slice A0 l0.length c0, Value.int IntKind.i64 size, undef, Value.pointer (some { block := w.heap.size, off := 0 }), Value.slice none 0 0, Value.pointer (some { block := B, off := 0 }), Value.pointer (some { block := B + 1, off := 0 }), Value.pointer (some { block := B + 1 + 1, off := 0 }), Value.slice Ag (grp l0 t).length (grp l0 t).length, undef, undef, undef, Value.slice A0 l0.length c0, Value.bool true, Value.bool false, Value.bool false, Value.int IntKind.i64 size, Value.bool false, Value.bool false, Value.slice A0 l0.length c0, Value.func (Fn.func 44) #[] #[Value.pointer (some { block := B + 1 + 1 + 1, off := 0 })], Value.slice Ag (grp l0 t).length (grp l0 t).length, undef, undef, undef, undef, undef, undef, undef, undef, undef, undef, undef, undef, undef, undef, undef, undef, undef, undef, undef, undef, undef, undef, undef, undef, undef, undef, undef, undef, undef, undef, undef, undef, undef, undef, undef, undef, undef, undef, undef, undef, undef, undef, undef, undef, undef, undef, undef], defers := [] }) ?assign ?body ?done
  case nx =>
    rintro t W m v ⟨h1, room, Ao, co, An, cn, hrm, h2⟩ _ _
    exact ⟨(Below.heap_setCell (W.drewN m) _ _ _ (by show w.heap.size ≠ B + 1 + 1 + 1; omega)).trans h1, room, Ao, co, An, cn, hrm, CutM.set (h2.below (pw_below_drewN (Below.refl _ _) m)) (by omega) (by omega) (by omega) (by omega) v⟩
  case dr =>
    rintro t W m ⟨h1, room, Ao, co, An, cn, hrm, h2⟩
    exact ⟨h1, room, Ao, co, An, cn, hrm, h2.below (pw_below_drewN (Below.refl _ _) m)⟩
  case h0 => exact ⟨HSQ.out, 0, none, 0, none, 0, fun h => absurd rfl h, HX0.out, HX1.out, HX2.out, Kd.S_nil _ _ _ _ _, Kd.R_nil _ _ _ _ _⟩
  case assign =>
    intro l t Ag W K hK
    gi_wp2
    exact hK
  case body =>
    rintro l t Ag W ht hCg hbW hszW ⟨hsq, room, Ao, co, An, cn, hrm, hM⟩
    obtain ⟨g, hg⟩ : ∃ g, grp l0 t = g := ⟨_, rfl⟩
    have HG := Aside0.mk hg
    obtain ⟨hlen, hgz⟩ := cutTo_bd size l0 t
    have hst : cutTo size l0 (t + 1) = cutStep size (cutTo size l0 t) (grp l0 t) := rfl
    have hgne : 0 < g.length := by
      have h1 := runLen_pos' (HN3.out t ht)
      have h2 := grp_length l0 t
      rw [hg] at h2
      omega
    rw [hg] at hCg hlen hgz hst ⊢
    obtain ⟨st, hst0⟩ : ∃ st, cutTo size l0 t = st := ⟨_, rfl⟩
    rw [hst0] at hlen hgz hst hrm hM
    obtain ⟨out, now⟩ := st
    dsimp only at hlen hgz hrm hM
    have hgzz : gsize g ≤ 1152921504606846976 := by omega
    have HL := Aside0.mk hL
    have HP := Aside0.mk (show ∀ (w' : World) (room : Int) (st : List (List S24) × List S24) (Ao : Option Addr) (co : Nat) (An : Option Addr) (cn : Nat), BodyC w W w' wl.heap.size B → cutStep size (out, now) g = st → (st.2 ≠ [] → room = size - gsize st.2) → CutM w wl.heap.size B st.1 st.2 room Ao co An cn w' → KeepsOthers W w' ∧ w'.heap[B + 1 + 1 + 1]? = W.heap[B + 1 + 1 + 1]? ∧ Below w.heap.size w w' ∧ w'.heap[w.heap.size]? = some (.cells #[.int .i64 size] 3 (0, 0)) ∧ CutB w wl.heap.size B size (cutTo size l0 (t + 1)) w' from by
      intro w' room st Ao co An cn h he hr hm
      refine ⟨h.ko, h.fix _ (by omega) (by omega) (by omega) (by omega), h.below, (h.fix _ (by omega) (by omega) (by omega) (by omega)).trans hsq, ?_⟩
      rw [hst, he]
      exact ⟨room, Ao, co, An, cn, hr, hm⟩)
    have HCG := Aside0.mk (Kd.C_below hCg hbW)
    have HCW := Aside0.mk hCg
    have HMW := Aside0.mk hM
    have HBD := Aside0.mk (⟨hbW, KeepsOthers.refl _, hszW, fun _ _ _ _ _ => rfl⟩ : BodyC w W W wl.heap.size B)
    have HRM := Aside0.mk hrm
    have HSQ2 := Aside0.mk hsq
    have hgl : g.length ≤ 2932031007317 := by omega
    clear hg hCg hbW hsq hst hst0 hM hrm hL
    gi_wp2
    gi_loopg [9, 24] g.length (fun kq v9 v24 w' => ∃ i : Nat, v9 = .int .i64 ((gsize (g.take i) : Nat) : Int) ∧ v24 = .int .i64 i ∧ i ≤ g.length ∧ Aside0 (kq = g.length - i) ∧ Aside0 (Below W.heap.size W w'))
    case atStart => exact ⟨0, rfl, rfl, Nat.zero_le _, ⟨rfl⟩, ⟨Below.refl _ _⟩⟩
    case round =>
      obtain ⟨i, rfl, rfl, hi, HK, HBL⟩ := hrel
      by_cases hlt : i < g.length
      · obtain ⟨k1, rfl⟩ : ∃ k1, gk = k1 + 1 := ⟨gk - 1, by have := HK.out; omega⟩
        have HK1 := Aside0.mk (show k1 = g.length - (i + 1) by have := HK.out; omega)
        obtain ⟨ad, ea, x0, x1, x2, x3⟩ := at_T24 (Kd.C_below HCG.out HBL.out) (i : Int) (Int.natCast_nonneg _) (by omega)
        subst ea
        rw [Int.toNat_natCast] at x0 x1 x2 x3
        obtain ⟨x, hx⟩ : ∃ x, rd_T24 g (i : Int) = x := ⟨_, rfl⟩
        rw [hx] at x0 x1 x2 x3
        have htk : g.take (i + 1) = g.take i ++ [x] := by rw [← hx, rd24_getElem g i hlt, List.take_succ_eq_append_getElem hlt]
        have hgs1 : gsize (g.take (i + 1)) = gsize (g.take i) + (x.f0.size + x.f2.size + 16) := by rw [htk, gsize_append]; simp [gsize]
        have hgs2 : gsize (g.take (i + 1)) ≤ gsize g := by
          have h := gsize_append (g.take (i + 1)) (g.drop (i + 1))
          rw [List.take_append_drop] at h
          omega
        have HG1 := Aside0.mk hgs1
        obtain ⟨s, hs⟩ : ∃ s, gsize (g.take i) = s := ⟨_, rfl⟩
        rw [hs] at hgs1 HG1 ⊢
        obtain ⟨f0, f1, f2, f3⟩ := x
        dsimp only at x0 x1 x2 x3 hgs1 HG1
        have hb1 : s + (f0.size + f2.size + 16) ≤ 1152921504606846976 := by omega
        clear hx htk hgs1 hgs2 hs
        gi_wp2
        gi_roundg k1
        case measure => omega
        case rel =>
          refine ⟨i + 1, ?_, by first | rfl | (congr 1; omega) | (simp; done), by omega, HK1, ⟨below_alloc HBL.out _⟩⟩
          rw [HG1.out]
          congr 1
      · obtain rfl : i = g.length := by omega
        rw [List.take_length]
        obtain ⟨ng, hng⟩ : ∃ ng, gsize g = ng := ⟨_, rfl⟩
        have HNG := Aside0.mk hng
        rw [hng] at hgzz hgz ⊢
        have HM2 := Aside0.mk (HMW.out.below HBL.out)
        have HBD2 := Aside0.mk (HBD.out.next HBL.out)
        have hzz := (blk_cell1 ((HBD2.out.fix _ (by have := HL.out; omega) (by omega) (by omega) (by omega)).trans HSQ2.out) 0 rfl).1
        have ho1 := (blk_cell1 HM2.out.bo 0 rfl).1
        have hn1 := (blk_cell1 HM2.out.bn 0 rfl).1
        have hr1 : wr.cell? ⟨B + 1 + 1, 0, none⟩ = some (.int .i64 room) := (blk_cell1 HM2.out.br 0 rfl).1
        have hn2 := (blk_cell1 HM2.out.bn 0 rfl).2
        have hr2 : wr.frozen? ⟨B + 1 + 1, 0, none⟩ = false := (blk_cell1 HM2.out.br 0 rfl).2
        have ho2 := (blk_cell1 HM2.out.bo 0 rfl).2
        have HBLW := HBL
        clear hng HMW HBD HBL HK
        obtain ⟨ad, ea, _⟩ := at_T24 HCG.out 0 (by omega) (by omega)
        subst ea
        have hgn0 : g ≠ [] := fun e => by rw [e] at hgne; exact absurd hgne (Nat.lt_irrefl 0)
        have HGN0 := Aside0.mk hgn0
        clear hgn0
        by_cases hne : now = []
        · subst hne
          have HMQ : Aside0 (CutM w wl.heap.size B out [] size Ao co An cn (wr.setCell ⟨B + 1 + 1, 0, none⟩ (.int .i64 size))) := Aside0.mk (HM2.out.room (by have := HL.out; omega) size)
          have HBDQ : Aside0 (BodyC w W (wr.setCell ⟨B + 1 + 1, 0, none⟩ (.int .i64 size)) wl.heap.size B) := Aside0.mk (HBD2.out.set (b := B + 2) (by omega) (.inr (.inr rfl)) _)
          have hn3 : (wr.setCell ⟨B + 1 + 1, 0, none⟩ (.int .i64 size)).cell? ⟨B + 1, 0, none⟩ = some (.slice An 0 cn) := (blk_cell1 HMQ.out.bn 0 rfl).1
          have hn1' : wr.cell? ⟨B + 1, 0, none⟩ = some (.slice An 0 cn) := hn1
          clear hn1
          gi_wp2_with (gi_at_builtin; refine append_rows_in k24 (Rr := k24.K (wr.setCell ⟨B + 1 + 1, 0, none⟩ (.int .i64 size))) (w0 := w) w.heap.size rfl (.tmp 55) (.tmp 56) 25 24 (.agg #[(.string ⟨#[]⟩), (.int .u64 0), (.string ⟨#[]⟩), (.bool false)]) 48 rfl Try.underlying25 info24 rfl (by decide) (by decide) (.slice An (([] : List S24)).length cn) ([] : List S24) g (some ad) g.length g.length (fun k => wl.heap.size ≤ k) (fun _ => False) rfl rfl HMQ.out.R (Kd.C_below HCW.out HBDQ.out.below) (fun x_ cs_ h_ => by rw [k24_open h_]; exact k24_mkM _ _ _ x_) (fun _ h_ => h_.elim) (fun k_ hk_ => by have := HBDQ.out.sz; omega) HBDQ.out.below (by have := HBDQ.out.below.size; exact this) (by simp only [List.length_nil]; omega) ?_; intro v3 w6 ho2_ hb2 hg2 hat2; obtain ⟨ys, hys⟩ : ∃ ys, ([] : List S24) ++ g = ys := ⟨_, rfl⟩; rw [hys] at ho2_; have HYS := Aside0.mk hys; obtain ⟨A3, c3, rfl⟩ := Kd.R_slice ho2_; have HM5 := Aside0.mk (HMQ.out.grow (by have := HL.out; omega) ho2_ hg2 hat2); have HBD5 := Aside0.mk ((HBDQ.out.grown hg2 hb2 (fun k_ hk_ => HMQ.out.R.1 k_ hk_) (fun k_ hk_ => by obtain ⟨cs_, hc_⟩ := Kd.R_typed HMQ.out.R k_ hk_; exact ⟨cs_, _, hc_⟩)).set (b := B + 1) (by omega) (.inr (.inl rfl)) (.slice A3 ys.length c3)); have hnn5 : w6.cell? ⟨B + 1, 0, none⟩ = some (.slice An (([] : List S24)).length cn) ∧ w6.frozen? ⟨B + 1, 0, none⟩ = false := blk_cell1 ((hg2.block (B + 1) (Array.getElem?_eq_some_iff.1 HMQ.out.bn).1 (fun e_ => by have := HMQ.out.R.1 _ e_.symm; have := HL.out; omega)).trans HMQ.out.bn) 0 rfl; have hnc5 := hnn5.1; have hnf5 := hnn5.2; have hrc5 : (w6.setCell ⟨B + 1, 0, none⟩ (.slice A3 ys.length c3)).cell? ⟨B + 1 + 1, 0, none⟩ = some (.int .i64 (size)) := (blk_cell1 HM5.out.br 0 rfl).1; have hrf5 : (w6.setCell ⟨B + 1, 0, none⟩ (.slice A3 ys.length c3)).frozen? ⟨B + 1 + 1, 0, none⟩ = false := (blk_cell1 HM5.out.br 0 rfl).2; clear hys ho2_ hb2 hg2 hat2 hnn5)
          refine HP.out _ (size - ng) (out, ys) _ _ _ _ (HBD5.out.set (b := B + 2) (by omega) (.inr (.inr rfl)) _) ?_ ?_ (HM5.out.room (by have := HL.out; omega) _)
          · rw [← HYS.out]
            unfold cutStep
            rw [if_neg HGN0.out, if_neg (by simp)]
          · intro _
            show size - (ng : Int) = size - (gsize ys : Nat)
            rw [← HYS.out, List.nil_append, HNG.out]
        · have hrm := HRM.out hne
          have hnl : 0 < now.length := List.length_pos_iff.2 hne
          have HNE := Aside0.mk hne
          have HRM2 := Aside0.mk hrm
          clear hne
          by_cases hgt : (ng : Int) > room
          · have hgt1 : decide (room < (ng : Int)) = true := decide_eq_true (by omega)
            clear hrm
            gi_wp2_with (first | (gi_at_builtin; refine append_rows_in k24 (Rr := k24.K ((((w5.setCell ⟨B, 0, none⟩ (.slice A2 os.length c2)).setCell ⟨B + 1, 0, none⟩ (.slice none 0 0)).setCell ⟨B + 1 + 1, 0, none⟩ (.int .i64 size)))) (w0 := w) w.heap.size rfl (.tmp 55) (.tmp 56) 25 24 (.agg #[(.string ⟨#[]⟩), (.int .u64 0), (.string ⟨#[]⟩), (.bool false)]) 48 rfl Try.underlying25 info24 rfl (by decide) (by decide) (.slice none (([] : List S24)).length 0) ([] : List S24) g (some ad) g.length g.length (fun k => wl.heap.size ≤ k) (fun _ => False) rfl rfl HMQ.out.R (Kd.C_below HCW.out HBDQ.out.below) (fun x_ cs_ h_ => by rw [k24_open h_]; exact k24_mkM _ _ _ x_) (fun _ h_ => h_.elim) (fun k_ hk_ => by have := HBDQ.out.sz; omega) HBDQ.out.below (by have := HBDQ.out.below.size; exact this) (by simp only [List.length_nil]; omega) ?_; intro v3 w6 ho2_ hb2 hg2 hat2; obtain ⟨ys, hys⟩ : ∃ ys, ([] : List S24) ++ g = ys := ⟨_, rfl⟩; rw [hys] at ho2_; have HYS := Aside0.mk hys; obtain ⟨A3, c3, rfl⟩ := Kd.R_slice ho2_; have HM5 := Aside0.mk (HMQ.out.grow (by have := HL.out; omega) ho2_ hg2 hat2); have HBD5 := Aside0.mk ((HBDQ.out.grown hg2 hb2 (fun k_ hk_ => HMQ.out.R.1 k_ hk_) (fun k_ hk_ => by obtain ⟨cs_, hc_⟩ := Kd.R_typed HMQ.out.R k_ hk_; exact ⟨cs_, _, hc_⟩)).set (b := B + 1) (by omega) (.inr (.inl rfl)) (.slice A3 ys.length c3)); have hnn5 : w6.cell? ⟨B + 1, 0, none⟩ = some (.slice none (([] : List S24)).length 0) ∧ w6.frozen? ⟨B + 1, 0, none⟩ = false := blk_cell1 ((hg2.block (B + 1) (Array.getElem?_eq_some_iff.1 HMQ.out.bn).1 (fun e_ => by have := HMQ.out.R.1 _ e_.symm; have := HL.out; omega)).trans HMQ.out.bn) 0 rfl; have hnc5 := hnn5.1; have hnf5 := hnn5.2; have hrc5 : (w6.setCell ⟨B + 1, 0, none⟩ (.slice A3 ys.length c3)).cell? ⟨B + 1 + 1, 0, none⟩ = some (.int .i64 (size)) := (blk_cell1 HM5.out.br 0 rfl).1; have hrf5 : (w6.setCell ⟨B + 1, 0, none⟩ (.slice A3 ys.length c3)).frozen? ⟨B + 1 + 1, 0, none⟩ = false := (blk_cell1 HM5.out.br 0 rfl).2; clear hys ho2_ hb2 hg2 hat2 hnn5) | (gi_at_builtin; refine append_S_in (Kd.slice 24 k24) (w0 := w) w.heap.size rfl (.tmp 47) (.tmp 49) 32 25 (.slice none 0 0) 24 rfl Try.underlying32 info25 rfl (by decide) (by decide) (.slice Ao out.length co) out now [.slice An now.length cn] (fun k => wl.heap.size ≤ k) (fun k => some k = (Value.slice An now.length cn).ownBlock) rfl rfl (Kd.M_row (Kd.R_mono (Kd.R_tight rfl HM2.out.R) (fun _ h_ => h_))) (fun k_ hk_ => (Kd.R_apart' HM2.out.R (Kd.S_typed HM2.out.S) (by decide)).1 k_ hk_.symm) (fun k_ hk_ => by have := HBD2.out.sz; omega) (Kd.S_mono HM2.out.S (fun k_ hk_ => ⟨hk_.1, fun e_ => hk_.2 e_⟩)) HBD2.out.below HBD2.out.below.size (by omega) ?_; intro v2 w5 hs2 hb2 hg2 hat2; obtain ⟨A2, c2, rfl⟩ := Kd.S_slice hs2; have HMF := Aside0.mk (HM2.out.flush (by have := HL.out; omega) hs2 hg2); have HBDF := Aside0.mk (((HBD2.out.grown hg2 hb2 (fun k_ hk_ => ((Kd.S_R HM2.out.S).1 k_ hk_).1) (fun k_ hk_ => by obtain ⟨cs_, hc_⟩ := Kd.S_typed HM2.out.S k_ hk_; exact ⟨cs_, _, hc_⟩)).set (b := B) (by omega) (.inl rfl) (.slice A2 (out ++ [now]).length c2)).set (b := B + 1) (by omega) (.inr (.inl rfl)) (.slice none 0 0)); have hnr : ∀ k, k < wl.heap.size → some k ≠ (Value.slice Ao out.length co).ownBlock := fun k hk e => by { have := ((Kd.S_R HM2.out.S).1 k e.symm).1; omega }; have q1 := blk_cell1 ((hg2.block B (Array.getElem?_eq_some_iff.1 HM2.out.bo).1 (hnr _ (by have := HL.out; omega))).trans HM2.out.bo) 0 rfl; have q2 := blk_cell1 (((Below.heap_setCell w5 ⟨B, 0, none⟩ (.slice A2 (out ++ [now]).length c2) (B + 1) (by show B + 1 ≠ B; omega)).trans (hg2.block (B + 1) (Array.getElem?_eq_some_iff.1 HM2.out.bn).1 (hnr _ (by have := HL.out; omega)))).trans HM2.out.bn) 0 rfl; clear hs2 hb2 hg2 hat2 hnr; obtain ⟨os, hos⟩ : ∃ os, out ++ [now] = os := ⟨_, rfl⟩; rw [hos] at HMF HBDF q2 ⊢; have HOS := Aside0.mk hos; clear hos; have q1a := q1.1; have q1b := q1.2; have q2a := q2.1; have q2b := q2.2; have f1 : ((w5.setCell ⟨B, 0, none⟩ (.slice A2 os.length c2)).setCell ⟨B + 1, 0, none⟩ (.slice none 0 0)).cell? ⟨B + 1, 0, none⟩ = some (.slice none 0 0) := (blk_cell1 HMF.out.bn 0 rfl).1; have f2 : ((w5.setCell ⟨B, 0, none⟩ (.slice A2 os.length c2)).setCell ⟨B + 1, 0, none⟩ (.slice none 0 0)).cell? ⟨w.heap.size, 0, none⟩ = some (.int .i64 size) := (blk_cell1 ((HBDF.out.fix _ (by have := HL.out; omega) (by omega) (by omega) (by omega)).trans HSQ2.out) 0 rfl).1; have f3 : ((w5.setCell ⟨B, 0, none⟩ (.slice A2 os.length c2)).setCell ⟨B + 1, 0, none⟩ (.slice none 0 0)).cell? ⟨B + 1 + 1, 0, none⟩ = some (.int .i64 room) := (blk_cell1 HMF.out.br 0 rfl).1; have f4 : ((w5.setCell ⟨B, 0, none⟩ (.slice A2 os.length c2)).setCell ⟨B + 1, 0, none⟩ (.slice none 0 0)).frozen? ⟨B + 1 + 1, 0, none⟩ = false := (blk_cell1 HMF.out.br 0 rfl).2; have HMQ : Aside0 (CutM w wl.heap.size B os [] size A2 c2 none 0 (((w5.setCell ⟨B, 0, none⟩ (.slice A2 os.length c2)).setCell ⟨B + 1, 0, none⟩ (.slice none 0 0)).setCell ⟨B + 1 + 1, 0, none⟩ (.int .i64 size))) := Aside0.mk (HMF.out.room (by have := HL.out; omega) size); have HBDQ : Aside0 (BodyC w W (((w5.setCell ⟨B, 0, none⟩ (.slice A2 os.length c2)).setCell ⟨B + 1, 0, none⟩ (.slice none 0 0)).setCell ⟨B + 1 + 1, 0, none⟩ (.int .i64 size)) wl.heap.size B) := Aside0.mk (HBDF.out.set (b := B + 2) (by omega) (.inr (.inr rfl)) _); have f5 : (((w5.setCell ⟨B, 0, none⟩ (.slice A2 os.length c2)).setCell ⟨B + 1, 0, none⟩ (.slice none 0 0)).setCell ⟨B + 1 + 1, 0, none⟩ (.int .i64 size)).cell? ⟨B + 1, 0, none⟩ = some (.slice none 0 0) := (blk_cell1 HMQ.out.bn 0 rfl).1; clear q1 q2))
            refine HP.out _ (size - ng) (os, ys) _ _ _ _ (HBD5.out.set (b := B + 2) (by omega) (.inr (.inr rfl)) _) ?_ ?_ (HM5.out.room (by have := HL.out; omega) _)
            · rw [← HYS.out, ← HOS.out]
              unfold cutStep
              rw [if_neg HGN0.out, if_pos ⟨HNE.out, by have := HRM2.out; rw [HNG.out]; dsimp only; omega⟩]
              rfl
            · intro _
              show size - (ng : Int) = size - (gsize ys : Nat)
              rw [← HYS.out, List.nil_append, HNG.out]
          · have hgt1 : decide (room < (ng : Int)) = false := decide_eq_false (by omega)
            have hrb1 : -1152921504606846976 ≤ room := by omega
            have hrb2 : room ≤ 9223372036854775807 := by omega
            clear hrm
            gi_wp2_with (gi_at_builtin; refine append_rows_in k24 (Rr := k24.K (wr)) (w0 := w) w.heap.size rfl (.tmp 55) (.tmp 56) 25 24 (.agg #[(.string ⟨#[]⟩), (.int .u64 0), (.string ⟨#[]⟩), (.bool false)]) 48 rfl Try.underlying25 info24 rfl (by decide) (by decide) (.slice An (now).length cn) now g (some ad) g.length g.length (fun k => wl.heap.size ≤ k) (fun _ => False) rfl rfl HM2.out.R (Kd.C_below HCW.out HBD2.out.below) (fun x_ cs_ h_ => by rw [k24_open h_]; exact k24_mkM _ _ _ x_) (fun _ h_ => h_.elim) (fun k_ hk_ => by have := HBD2.out.sz; omega) HBD2.out.below (by have := HBD2.out.below.size; exact this) (by omega) ?_; intro v3 w6 ho2_ hb2 hg2 hat2; obtain ⟨ys, hys⟩ : ∃ ys, now ++ g = ys := ⟨_, rfl⟩; rw [hys] at ho2_; have HYS := Aside0.mk hys; obtain ⟨A3, c3, rfl⟩ := Kd.R_slice ho2_; have HM5 := Aside0.mk (HM2.out.grow (by have := HL.out; omega) ho2_ hg2 hat2); have HBD5 := Aside0.mk ((HBD2.out.grown hg2 hb2 (fun k_ hk_ => HM2.out.R.1 k_ hk_) (fun k_ hk_ => by obtain ⟨cs_, hc_⟩ := Kd.R_typed HM2.out.R k_ hk_; exact ⟨cs_, _, hc_⟩)).set (b := B + 1) (by omega) (.inr (.inl rfl)) (.slice A3 ys.length c3)); have hnn5 : w6.cell? ⟨B + 1, 0, none⟩ = some (.slice An (now).length cn) ∧ w6.frozen? ⟨B + 1, 0, none⟩ = false := blk_cell1 ((hg2.block (B + 1) (Array.getElem?_eq_some_iff.1 HM2.out.bn).1 (fun e_ => by have := HM2.out.R.1 _ e_.symm; have := HL.out; omega)).trans HM2.out.bn) 0 rfl; have hnc5 := hnn5.1; have hnf5 := hnn5.2; have hrc5 : (w6.setCell ⟨B + 1, 0, none⟩ (.slice A3 ys.length c3)).cell? ⟨B + 1 + 1, 0, none⟩ = some (.int .i64 (room)) := (blk_cell1 HM5.out.br 0 rfl).1; have hrf5 : (w6.setCell ⟨B + 1, 0, none⟩ (.slice A3 ys.length c3)).frozen? ⟨B + 1 + 1, 0, none⟩ = false := (blk_cell1 HM5.out.br 0 rfl).2; clear hys ho2_ hb2 hg2 hat2 hnn5)
            refine HP.out _ (room - ng) (out, ys) _ _ _ _ (HBD5.out.set (b := B + 2) (by omega) (.inr (.inr rfl)) _) ?_ ?_ (HM5.out.room (by have := HL.out; omega) _)
            · rw [← HYS.out]
              unfold cutStep
              rw [if_neg HGN0.out, if_neg (fun h => by have h2 := h.2; rw [HNG.out] at h2; have h3 := HRM2.out; dsimp only at h2; omega)]
            · intro _
              show room - (ng : Int) = size - (gsize ys : Nat)
              rw [← HYS.out, gsize_append, HNG.out, HRM2.out]
              omega
  case done =>
    rintro D W hD hbW ⟨hsq, room, Ao, co, An, cn, hrm, hM⟩ hK
    have hcf := cutF_eq size l0 N HN1.out HN2.out
    obtain ⟨hlen, _⟩ := cutTo_bd size l0 N
    obtain ⟨st, hst0⟩ : ∃ st, cutTo size l0 N = st := ⟨_, rfl⟩
    rw [hst0] at hlen hM hcf
    obtain ⟨out, now⟩ := st
    dsimp only at hlen hM hcf
    have HCF := Aside0.mk hcf
    have HM2 := Aside0.mk hM
    have HBW2 := Aside0.mk hbW
    have HKD := Aside0.mk hK
    have hsz : wl.heap.size ≤ W.heap.size := by have := (Array.getElem?_eq_some_iff.1 hK).1; omega
    have ho1 := (blk_cell1 hM.bo 0 rfl).1
    have hn1 := (blk_cell1 hM.bn 0 rfl).1
    have ho2 := (blk_cell1 hM.bo 0 rfl).2
    have HL := Aside0.mk hL
    clear hsq hrm hM hK hbW hcf hst0 hL
    have hfin : ∀ (W2 W' : World) (v : Value) (xs : List (List S24)), W2.heap[D]? = some (.deferred (some [])) → Kd.S (Kd.slice 24 k24) 25 W2 w.heap.size (fun k => wl.heap.size ≤ k) v xs → ShutMarks [D] W2 W' → Kd.S (Kd.slice 24 k24) 25 W' w.heap.size (fun _ => True) v xs := by
      intro W2 W' v xs hkd hs hsm
      refine Kd.S_mono (Kd.S_move (Kd.S_bound hs) (fun k hk => hsm.block k (fun hm => ?_))) (fun _ _ => trivial)
      obtain rfl := List.mem_singleton.1 hm
      obtain ⟨_, _, _, qq, _, cells, hc⟩ := hk
      rw [hkd] at hc
      cases hc
    have HFIN := Aside0.mk hfin
    clear hfin
    by_cases hne : now = []
    · subst hne
      have hn1' : W.cell? ⟨B + 1, 0, none⟩ = some (.slice An 0 cn) := hn1
      clear hn1
      gi_wp2
      refine leavesMarks [D] W (by simp) (fun D' hD' => by obtain rfl := List.mem_singleton.1 hD'; exact HKD.out) (fun W' hs => ?_)
      refine ⟨_, results_tmp rfl _ _ _, _, rfl, ?_, HBW2.out.trans (hs.below (fun D' hD' => by obtain rfl := List.mem_singleton.1 hD'; have := HBW.out.size; omega))⟩
      rw [HCF.out]
      simp only [if_true]
      exact HFIN.out W W' _ _ HKD.out (Kd.S_mono HM2.out.S (fun k hk => hk.1)) hs
    · have hnl : 0 < now.length := List.length_pos_iff.2 hne
      have HNE := Aside0.mk hne
      clear hne
      gi_wp2_with (gi_at_builtin; refine append_S_in (Kd.slice 24 k24) (w0 := w) w.heap.size rfl (.tmp 64) (.tmp 66) 32 25 (.slice none 0 0) 24 rfl Try.underlying32 info25 rfl (by decide) (by decide) (.slice Ao out.length co) out now [.slice An now.length cn] (fun k => wl.heap.size ≤ k) (fun k => some k = (Value.slice An now.length cn).ownBlock) rfl rfl (Kd.M_row (Kd.R_mono (Kd.R_tight rfl HM2.out.R) (fun _ h_ => h_))) (fun k_ hk_ => (Kd.R_apart' HM2.out.R (Kd.S_typed HM2.out.S) (by decide)).1 k_ hk_.symm) (fun k_ hk_ => by omega) (Kd.S_mono HM2.out.S (fun k_ hk_ => ⟨hk_.1, fun e_ => hk_.2 e_⟩)) HBW2.out HBW2.out.size (by omega) ?_; intro v2 w5 hs2 hb2 hg2 hat2; obtain ⟨A2, c2, rfl⟩ := Kd.S_slice hs2; have hnr : ∀ k, k < wl.heap.size → some k ≠ (Value.slice Ao out.length co).ownBlock := fun k hk e => by { have := ((Kd.S_R HM2.out.S).1 k e.symm).1; omega }; have q1 := blk_cell1 ((hg2.block B (Array.getElem?_eq_some_iff.1 HM2.out.bo).1 (hnr _ (by have := HL.out; omega))).trans HM2.out.bo) 0 rfl; have hkd : w5.heap[D]? = some (.deferred (some [])) := (hg2.block D (Array.getElem?_eq_some_iff.1 HKD.out).1 (fun e_ => by obtain ⟨cs_, hc_⟩ := Kd.S_typed HM2.out.S D e_.symm; rw [HKD.out] at hc_; cases hc_)).trans HKD.out; have HKD5 := Aside0.mk hkd; have q1a := q1.1; have q1b := q1.2; have HS2 := Aside0.mk hs2; have HB2 := Aside0.mk hb2; clear hs2 hb2 hg2 hat2 hnr q1 hkd; obtain ⟨os, hos⟩ : ∃ os, out ++ [now] = os := ⟨_, rfl⟩; rw [hos] at HS2 ⊢; have HOS := Aside0.mk hos; clear hos)
      refine leavesMarks [D] _ (by simp) (fun D' hD' => by obtain rfl := List.mem_singleton.1 hD'; exact (Below.heap_setCell _ _ _ _ (by show D' ≠ B; have := HL.out; omega)).trans HKD5.out) (fun W' hs => ?_)
      refine ⟨_, results_tmp rfl _ _ _, _, rfl, ?_, (HB2.out.setCell (p := ⟨B, 0, none⟩) (by show w.heap.size ≤ B; omega) _).trans (hs.below (fun D' hD' => by obtain rfl := List.mem_singleton.1 hD'; have := HBW.out.size; omega))⟩
      rw [HCF.out, if_neg HNE.out, HOS.out]
      exact HFIN.out _ W' _ _ ((Below.heap_setCell _ _ _ _ (by show D ≠ B; have := HL.out; omega)).trans HKD5.out) (Kd.S_step HS2.out (fun k hk _ => Below.heap_setCell _ _ _ _ (by show k ≠ B; have := HL.out; omega))) hs
def merge_Cut.f (l0 : List S24) (size : Int) : Option (List (List S24)) := if l0.length ≤ 2932031007317 ∧ gsize l0 ≤ 1152921504606846976 ∧ size ≤ 9223372036854775807 then (if sortedF l0 = true ∧ 1 ≤ size then some (cutF size l0) else some []) else none
set_option maxHeartbeats 4000000 in
set_option maxRecDepth 100000 in
theorem merge_Cut.calls (A0 : Option Addr) (c0 : Nat) (l0 : List S24) (size : Int) (r : List (List S24)) (w : World) (hr0 : Kd.C k24 w A0 l0.length l0) (hc0 : l0.length ≤ c0) (h : merge_Cut.f l0 size = some r) :
    Calls Try.prog 25 #[.slice A0 l0.length c0, .int .i64 size] w fun e w' => ∃ v0_ : Value, e = .returned v0_ ∧ Kd.S (Kd.slice 24 k24) 25 w' w.heap.size (fun _ => True) v0_ r ∧ Below w.heap.size w w' := by
  unfold merge_Cut.f at h
  by_cases hl : l0.length ≤ 2932031007317 ∧ gsize l0 ≤ 1152921504606846976 ∧ size ≤ 9223372036854775807
  rotate_left
  · rw [if_neg hl] at h; cases h
  rw [if_pos hl] at h
  obtain ⟨hl, hgz, hsz⟩ := hl
  by_cases hs : sortedF l0 = true ∧ 1 ≤ size
  · rw [if_pos hs] at h
    obtain rfl := Option.some.inj h
    exact cut_core A0 c0 l0 size hs.2 hsz w hr0 hc0 hl hgz hs.1
  · rw [if_neg hs] at h
    obtain rfl := Option.some.inj h
    have HR0 := Aside0.mk hr0
    have HS := Aside0.mk (sorted_val l0 (by omega))
    clear hr0 h
    cases hb : sortedF l0 with
    | true =>
      have hlt : decide (size < 1) = true := decide_eq_true (by
        have : ¬ (1 ≤ size) := fun h => hs ⟨hb, h⟩
        omega)
      rw [hb] at HS
      clear hs hb
      go_enter Try.func25, Try.ntmps25
      go_wp2_with (go_at_call 14; refine (merge_Sorted.calls _ A0 c0 l0 true _ (Kd.C_below HR0.out (below_alloc (Below.refl _ _) _)) hc0 HS.out).mono ?_; rintro e w1 ⟨rfl, hb⟩; have HB1 := Aside0.mk hb; have hbz := (blk_cell1 ((hb.block w.heap.size (by simp)).trans (alloc_heap_new' w (.cells #[.int .i64 size] 3))) 0 rfl).1; clear hb)
      go_ret
      exact ⟨_, rfl, Kd.S_nil _ _ _ _ _, (below_alloc (Below.refl _ _) _).trans (HB1.out.mono (by simp))⟩
    | false =>
      rw [hb] at HS
      clear hs hb
      go_enter Try.func25, Try.ntmps25
      go_wp2_with (go_at_call 14; refine (merge_Sorted.calls _ A0 c0 l0 false _ (Kd.C_below HR0.out (below_alloc (Below.refl _ _) _)) hc0 HS.out).mono ?_; rintro e w1 ⟨rfl, hb⟩; have HB1 := Aside0.mk hb; clear hb)
      go_ret
      exact ⟨_, rfl, Kd.S_nil _ _ _ _ _, (below_alloc (Below.refl _ _) _).trans (HB1.out.mono (by simp))⟩
end Go.Proofs.Ytdpnhnfhobmopaa.P
