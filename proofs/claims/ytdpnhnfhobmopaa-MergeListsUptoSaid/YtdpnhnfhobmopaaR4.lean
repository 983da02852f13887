/- append inside a fence; a range over merge.keys, as one law. -/
import Derived.Test.YtdpnhnfhobmopaaR3
import Derived.OwnWalkIn
namespace Go.Proofs.Ytdpnhnfhobmopaa.P
open Go.RowKit Go.Shelf Go.Proofs.YtdpnhnfhobmopaaW.PrintWords Go.Proofs.YtdpnhnfhobmopaaW.PrintLast Go.Proofs.YtdpnhnfhobmopaaW.PrintMore
set_option linter.unusedVariables false
set_option linter.unusedSimpArgs false
section
variable {P : Program} {ops : Array Oper} {rest : List Oper} {o : Oper} {a : Act} {W : World} {Kc : Act → World → Prop} {F : Fence} {n : Nat}
/-- append is carried out inside a fence, in a round too, as everywhere. -/
theorem oper_in_append (Q : Exit → Act → World → Prop) {s x : Operand} {t t' : TypeId} (ho : o.op = .call { callee := .builtin .append, args := #[s, x], argTypes := #[t, t'] })
    (h : Oper.wp P o a W Kc (fun _ _ _ => False)) : Oper.wpIn F n P o a W Kc Q := by
  have hs : o.semAt F.round a.eval = execOp a.eval o := Oper.semAt_plain F a.eval o (fun c hc => by rw [ho] at hc; cases hc)
  have ha : o.about P W a.eval = none := by simp [Oper.about, ho, resolve, Sem.run_pure, Target.leads]
  refine ⟨fun f hf => (by rw [ha] at hf; cases hf), ?_⟩
  rw [hs]
  unfold Oper.wp at h
  have e : ∃ m : Sem Value, execOp a.eval o = m >>= fun v => pure (.value v) := by
    refine ⟨Builtin.append_ #[t, t'] o.type #[a.eval s, a.eval x], ?_⟩
    simp [execOp, ho, resolve, invoke, builtin]
  obtain ⟨m, e⟩ := e
  rw [e] at h ⊢
  simp only [Sem.run_bind] at h ⊢
  cases hm : m.run P W with
  | ok v w' =>
    rw [hm] at h
    simp only [Result.andThen, Sem.run_pure] at h ⊢
    exact h
  | halt x w' =>
    rw [hm] at h
    simp only [Result.andThen] at h
    cases x <;> exact h.elim
theorem append_rows_opIn {α : Type} (d : Kd α) {Rr : α → List Value → Prop} {w0 : World} (base : Nat) (Q : Exit → Act → World → Prop) (hgd : o.guard = none) (s x : Operand) (t e : TypeId) (z : Value) (bytes : Nat)
    (ho : o.op = .call { callee := .builtin .append, args := #[s, x], argTypes := #[t, t] })
    (ht : P.underlying t = some (.slice e)) (hinfo : (P.info? e).map (fun i => (i.zero, i.size, i.bytes)) = some (some z, d.sz, bytes)) (hz : z.cells.size = d.sz) (hs0 : 0 < d.sz) (hb0 : 0 < bytes)
    (v : Value) (xs ys : List α) (A : Option Addr) (m c : Nat) (ok okp : Nat → Prop) (hs : a.eval s = v) (hx : a.eval x = .slice A m c)
    (HO : d.R e W base ok v xs) (HR : ReadsRow Rr d.sz W A m ys) (hKM : ∀ x cs, Rr x cs → d.M W base okp x cs) (hokp : ∀ k, okp k → ok k ∧ some k ≠ v.ownBlock) (hfresh : ∀ k, W.heap.size ≤ k → ok k)
    (HB : Below base w0 W) (hbase : base ≤ W.heap.size) (hl : (xs.length + m) * bytes ≤ 140737488355328)
    (h : ∀ v1 w1, d.R e w1 base ok v1 (xs ++ ys) → Below base w0 w1 → W.grownBy w1 v.ownBlock → (v1.ownBlock = v.ownBlock ∨ ∃ b, v1.ownBlock = some b ∧ W.heap.size ≤ b) → Kc (a.put o.dst v1) w1) :
    Oper.wpIn F n P o a W Kc Q := by
  refine oper_in_append Q ho ?_
  have hw : Region.wanted o (yielded #[] a.tmps) = true := by simp [Region.wanted, hgd]
  have := Kd.R_append_rows_step (Q := fun _ _ _ => False) (ops := #[]) d base hw s x t e z bytes ho ht hinfo hz hs0 hb0 v xs ys A m c ok okp hs hx HO HR hKM hokp hfresh HB hbase hl h
  rwa [if_pos hw] at this
theorem append_rows_in {α : Type} (d : Kd α) {Rr : α → List Value → Prop} {w0 : World} (base : Nat) {Q : Exit → Act → World → Prop} (hgd : o.guard = none) (s x : Operand) (t e : TypeId) (z : Value) (bytes : Nat)
    (ho : o.op = .call { callee := .builtin .append, args := #[s, x], argTypes := #[t, t] })
    (ht : P.underlying t = some (.slice e)) (hinfo : (P.info? e).map (fun i => (i.zero, i.size, i.bytes)) = some (some z, d.sz, bytes)) (hz : z.cells.size = d.sz) (hs0 : 0 < d.sz) (hb0 : 0 < bytes)
    (v : Value) (xs ys : List α) (A : Option Addr) (m c : Nat) (ok okp : Nat → Prop) (hs : a.eval s = v) (hx : a.eval x = .slice A m c)
    (HO : d.R e W base ok v xs) (HR : ReadsRow Rr d.sz W A m ys) (hKM : ∀ x cs, Rr x cs → d.M W base okp x cs) (hokp : ∀ k, okp k → ok k ∧ some k ≠ v.ownBlock) (hfresh : ∀ k, W.heap.size ≤ k → ok k)
    (HB : Below base w0 W) (hbase : base ≤ W.heap.size) (hl : (xs.length + m) * bytes ≤ 140737488355328)
    (h : ∀ v1 w1, d.R e w1 base ok v1 (xs ++ ys) → Below base w0 w1 → W.grownBy w1 v.ownBlock → (v1.ownBlock = v.ownBlock ∨ ∃ b, v1.ownBlock = some b ∧ W.heap.size ≤ b) → wpListIn F n P ops Q rest (a.put o.dst v1) w1) :
    wpListIn F n P ops Q (o :: rest) a W :=
  wpListIn_plain hgd fun K hK => append_rows_opIn d base Q hgd s x t e z bytes ho ht hinfo hz hs0 hb0 v xs ys A m c ok okp hs hx HO HR hKM hokp hfresh HB hbase hl (fun v1 w1 h1 h2 h3 h4 => hK _ _ (h v1 w1 h1 h2 h3 h4))
end
/-- In a round a region that defers nothing goes as outside. -/
theorem wpAnyIn_inRound {F : Fence} {n : Nat} {P : Program} {md : Region.Mode} {ops : Array Oper} {Q : Exit → Act → World → Prop} (l : Nat) (hd : ∀ (i : Nat) (o : Oper), ops[i]? = some o → ∀ c, o.op ≠ .defer c) :
    ∀ (fuel : Nat) (listed : Array Bool) (a : Act) (w : World), wpAnyIn F n P md ops Q fuel listed a w → wpAnyIn (F.inRound l) n P md ops Q fuel listed a w := by
  intro fuel
  induction fuel with
  | zero => intro listed a w h; exact h
  | succ fuel ih =>
    intro listed a w h
    refine ⟨h.1, fun i hi => ?_⟩
    have h2 := h.2 i hi
    refine wpOpIn_mono (K := wpAnyIn F n P md ops Q fuel (listed.setIfInBounds i true)) (fun a w hh => ih _ a w hh) ?_
    unfold wpOpIn at h2 ⊢
    cases ho : ops[i]? with
    | none => rw [ho] at h2; exact h2
    | some o =>
      rw [ho] at h2
      simp only at h2 ⊢
      by_cases hw : Region.wanted o (yielded ops a.tmps) = true
      · rw [if_pos hw] at h2 ⊢
        unfold Oper.wpIn at h2 ⊢
        rw [Oper.semAt_plain F _ _ (hd i o ho)] at h2
        rw [Oper.semAt_plain (F.inRound l) _ _ (hd i o ho)]
        exact h2
      · rw [if_neg hw] at h2 ⊢
        exact h2
def noDefer (ops : Array Oper) : Bool := ops.all fun o => match o.op with | .defer _ => false | _ => true
theorem noDefer_spec {ops : Array Oper} (h : noDefer ops = true) (i : Nat) (o : Oper) (hi : ops[i]? = some o) (c : Call) : o.op ≠ .defer c := by
  intro hc
  obtain ⟨hlt, he⟩ := Array.getElem?_eq_some_iff.1 hi
  have := Array.all_eq_true.1 h i hlt
  rw [he, hc] at this
  cases this
/-- A row of the call's own speaks of cells alone. -/
theorem ownFrom_R {α : Type} (B : Nat) (d : Kd α) (e : Nat) (base : Nat) (ok : Nat → Prop) (v : Value) (xs : List α) : OwnFrom B (fun (_ : Unit) W => Kd.R d e W base ok v xs) := fun _ W W' row h hg hr => by
  refine Kd.R_mono (Kd.R_move (Kd.R_bound h) (fun k hk => ?_)) (fun k hk => hk.1)
  obtain ⟨_, _, hlt, q, _, cells, hc⟩ := hk
  refine hg.block k hlt (fun e => ?_)
  obtain ⟨_, o, ho, hn⟩ := hr k e.symm
  rw [hc] at ho
  cases ho
  cases hn
/-- What lies behind the first t keys. -/
def restAt (l : List S24) : Nat → List S24
  | 0 => l
  | t + 1 => (restAt l t).drop (runLen (restAt l t))
/-- The cells of the key behind the first t. -/
def grp (l : List S24) (t : Nat) : List S24 := (restAt l t).take (runLen (restAt l t))
theorem grp_length (l : List S24) (t : Nat) : (grp l t).length = runLen (restAt l t) := by
  unfold grp
  rw [List.length_take, Nat.min_eq_left (runLen_le _)]
theorem raw_l (r : Raw) (t : Nat) : (r.at t).l = restAt r.l t := by
  induction t with
  | zero => rfl
  | succ t ih => show ((r.at t).l).drop (runLen (r.at t).l) = _; rw [ih]; rfl
theorem raw_C {W : World} (r : Raw) (h : Kd.C k24 W r.A r.l.length r.l) (hc : r.l.length ≤ r.c) (t : Nat) : Kd.C k24 W (r.at t).A (r.at t).l.length (r.at t).l ∧ (r.at t).l.length ≤ (r.at t).c := by
  induction t with
  | zero => exact ⟨h, hc⟩
  | succ t ih =>
    obtain ⟨h1, h2⟩ := ih
    have hl := runLen_le (r.at t).l
    refine ⟨Kd.C_drop h1 hl h2, ?_⟩
    show ((r.at t).l.drop (runLen (r.at t).l)).length ≤ (r.at t).c - runLen (r.at t).l
    rw [List.length_drop]
    omega
theorem runLen_pos' {l : List S24} (h : l ≠ []) : 0 < runLen l := by
  cases l with
  | nil => exact absurd rfl h
  | cons a l => exact runLen_pos a l
theorem restAt_length (l : List S24) (t : Nat) : (restAt l t).length ≤ l.length := by
  induction t with
  | zero => exact Nat.le_refl _
  | succ t ih => show ((restAt l t).drop _).length ≤ _; rw [List.length_drop]; omega
theorem restAt_shift (l : List S24) (t : Nat) : restAt l (t + 1) = restAt (l.drop (runLen l)) t := by
  induction t with
  | zero => rfl
  | succ t ih => show (restAt l (t + 1)).drop (runLen (restAt l (t + 1))) = _; rw [ih]; rfl
theorem exists_N : ∀ (d : Nat) (l : List S24), l.length ≤ d → ∃ N, N ≤ l.length ∧ restAt l N = [] ∧ ∀ t, t < N → restAt l t ≠ []
  | d, [], _ => ⟨0, Nat.le_refl _, rfl, fun t ht => absurd ht (Nat.not_lt_zero _)⟩
  | 0, x :: l, h => by simp at h
  | d + 1, x :: l, h => by
    have hp := runLen_pos x l
    have hle := runLen_le (x :: l)
    obtain ⟨N, h1, h2, h3⟩ := exists_N d ((x :: l).drop (runLen (x :: l))) (by rw [List.length_drop]; omega)
    rw [List.length_drop] at h1
    refine ⟨N + 1, by omega, by rw [restAt_shift]; exact h2, fun t ht => ?_⟩
    cases t with
    | zero => simp [restAt]
    | succ t => rw [restAt_shift]; exact h3 t (by omega)
/-- A RANGE OVER merge.keys. S t: what the caller's own variables hold behind t rounds; S' t: behind the body of round t. -/
theorem range_keys {ps : Array Tmp} {assign body : Code} {Q : Exit → Act → World → Prop} {a : Act} {w : World} (n : Nat) (hn : 2 ≤ n) {g : Operand} (w0 : World) (A0 : Option Addr) (c0 : Nat) (l0 : List S24) (hC : Kd.C k24 w0 A0 l0.length l0) (hcap : l0.length ≤ c0)
    (B : Nat) (hB0 : w0.heap.size ≤ B) (hB : B < w.heap.size) (hg : a.eval g = .func (.func 44) #[] #[.pointer (some ⟨B, 0, none⟩)]) (hps : ps.size = 1) (N : Nat) (hend : restAt l0 N = []) (hgo : ∀ t, t < N → restAt l0 t ≠ [])
    (S S' : Nat → World → Prop) (hS : OwnFrom w.heap.size S) (hS' : OwnFrom w.heap.size S') (hnx : ∀ t W m v, S' t W → Below w0.heap.size w0 W → (W.heap[B]?).isSome → S (t + 1) ((W.drewN m).setCell ⟨B, 0, none⟩ v)) (hdr : ∀ t W m, S t W → S t (W.drewN m))
    (h0 : S 0 w) (hb0 : Below w0.heap.size w0 w) (hbox : w.heap[B]? = some (.cells #[.slice A0 l0.length c0] 25 (0, 0)))
    (a₁ : Nat → Option Addr → Act)
    (hassign : ∀ (l t : Nat) (Ag : Option Addr) (W : World) (K : Act → World → Prop), K (a₁ t Ag) W → assign.wpIn (Fence.wide.inRound l) (n - 1 - 1) Try.prog (Exit.then K (fun _ _ _ => False)) { tmps := (ps.zip #[.slice Ag (grp l0 t).length (grp l0 t).length]).foldl (fun t (p, v) => t.setIfInBounds p v) a.tmps, defers := [] } W)
    (hbody : ∀ (l t : Nat) (Ag : Option Addr) (W : World), t < N → Kd.C k24 w0 Ag (grp l0 t).length (grp l0 t) → Below w0.heap.size w0 W → w.heap.size ≤ W.heap.size → S t W → body.wpIn (Fence.wide.inRound l) (n - 1 - 1) Try.prog (fun e _ W' => e = .normal ∧ KeepsOthers W W' ∧ W'.heap[B]? = W.heap[B]? ∧ Below w0.heap.size w0 W' ∧ S' t W') (a₁ t Ag) W)
    (hdone : ∀ (D : Nat) (W : World), w.heap.size ≤ D → Below w0.heap.size w0 W → S N W → W.heap[D]? = some (.deferred (some [])) → Q .normal { a with defers := { target := .collected D, args := #[] } :: a.defers } W) :
    (Code.rangeFunc g ps assign body).wpIn Fence.wide n Try.prog Q a w := by
  obtain ⟨r, hr⟩ : ∃ r : Raw, r = ⟨A0, c0, l0⟩ := ⟨_, rfl⟩
  have hrl : r.l = l0 := by rw [hr]
  have hCr : ∀ t, Kd.C k24 w0 (r.at t).A (r.at t).l.length (r.at t).l ∧ (r.at t).l.length ≤ (r.at t).c := raw_C r (by rw [hr]; exact hC) (by rw [hr]; exact hcap)
  have hra : ∀ t, (r.at t).l = restAt l0 t := fun t => by rw [raw_l, hrl]
  have hit := keys_in (n - 1) (by omega) B r N (by rw [hra]; exact hend) (fun t ht => by rw [hra]; exact hgo t ht)
  have hen : (fun t => #[Value.slice (r.at t).A (runLen (r.at t).l) (runLen (r.at t).l)]) = fun t => #[Value.slice (r.at t).A (grp l0 t).length (grp l0 t).length] := by
    funext t
    rw [grp_length, hra]
  rw [hen] at hit
  have hcl : ∀ (W : World) (v : Value), W.heap[B]? = some (.cells #[v] 25 (0, 0)) → W.cell? ⟨B, 0, none⟩ = some v ∧ W.frozen? ⟨B, 0, none⟩ = false := fun W v h => blk_cell1 h 0 rfl
  refine rangeFunc_asks rfl (by omega) hg trivial (enters_of Try.func44 (by kernel_rfl) rfl) hit (fun t => by rw [hps]; rfl)
    (fun t W => S t W ∧ Below w0.heap.size w0 W ∧ W.heap[B]? = some (.cells #[(r.at t).val] 25 (0, 0)) ∧ w.heap.size ≤ W.heap.size)
    (fun t W => S' t W ∧ Below w0.heap.size w0 W ∧ W.heap[B]? = some (.cells #[(r.at t).val] 25 (0, 0)) ∧ w.heap.size ≤ W.heap.size)
    ?_ ?_ ?_ ?_ ?_ ?_ ?_ ?_ (fun t => a₁ t (r.at t).A) ?_ ?_ ?_
  · intro s W W' row hs hgr hrow
    refine ⟨hS s W W' row hs.1 hgr hrow, hs.2.1.grown hgr hs.2.1.size (fun k e => Nat.le_trans hb0.size (hrow k e).1), ?_, Nat.le_trans hs.2.2.2 hgr.size⟩
    exact (hgr.block B (by omega) (fun e => by have := (hrow B e.symm).1; omega)).trans hs.2.2.1
  · intro s W W' row hs hgr hrow
    refine ⟨hS' s W W' row hs.1 hgr hrow, hs.2.1.grown hgr hs.2.1.size (fun k e => Nat.le_trans hb0.size (hrow k e).1), ?_, Nat.le_trans hs.2.2.2 hgr.size⟩
    exact (hgr.block B (by omega) (fun e => by have := (hrow B e.symm).1; omega)).trans hs.2.2.1
  · intro t W h
    have := hcl W _ h.2.2.1
    exact ⟨this.1, this.2, Kd.C_below (hCr t).1 h.2.1, (hCr t).2⟩
  · intro t W h
    have := hcl W _ h.2.2.1
    exact ⟨this.1, this.2, Kd.C_below (hCr t).1 h.2.1, (hCr t).2⟩
  · rintro t X Y ⟨hs, hb, hbx, hsz⟩ ⟨m, rfl⟩
    refine ⟨hnx t X m _ hs hb (by rw [hbx]; rfl), (pw_below_drewN hb m).setCell (p := ⟨B, 0, none⟩) hB0 _, blk_set (show (X.drewN m).heap[B]? = _ from hbx) 0 _, by simpa using hsz⟩
  · rintro t X Y k ⟨m, rfl⟩ hk
    exact Below.heap_setCell (X.drewN m) ⟨B, 0, none⟩ _ k (by show k ≠ B; omega)
  · rintro t X m ⟨hs, hb, hbx, hsz⟩
    exact ⟨hdr t X m hs, pw_below_drewN hb m, hbx, hsz⟩
  · refine ⟨h0, hb0, ?_, Nat.le_refl _⟩
    rw [hbox, hr]
    rfl
  · intro l t W K hK
    exact hassign l t _ W K hK
  · rintro l t W ⟨hs, hb, hbx, hsz⟩ ht
    have hCg : Kd.C k24 w0 (r.at t).A (grp l0 t).length (grp l0 t) := by
      have h1 := (hCr t).1
      rw [hra t] at h1
      unfold grp
      exact Kd.C_take h1 (runLen_le _)
    refine wpIn_mono (hbody l t (r.at t).A W ht hCg hb hsz hs) ?_
    rintro e a' W' ⟨rfl, hko, hbb, hb', hs'⟩
    exact ⟨hko, hs', hb', hbb.trans hbx, Nat.le_trans hsz hko.size⟩
  · rintro D W hD ⟨hs, hb, _, _⟩ hK
    exact hdone D W hD hb hs hK
end Go.Proofs.Ytdpnhnfhobmopaa.P
