/- The law MergeLists, walked: slices.Values' iterator, Goes, the law. -/
import Derived.Test.YtdpnhnfhobmopaaH5
import Derived.Test.YtdpnhnfhobmopaaPL0c
namespace Go.Proofs.Ytdpnhnfhobmopaa.P
open Go.RowKit Go.Shelf Go.Proofs.YtdpnhnfhobmopaaW.PrintWords Go.Proofs.YtdpnhnfhobmopaaW.PrintLast Go.Proofs.YtdpnhnfhobmopaaW.PrintMore
attribute [local go_sem] Oper.semAt_some
set_option linter.unusedVariables false
set_option linter.unusedSimpArgs false

abbrev cellV (x : S24) : Value := .agg #[.string x.f0, .int .u64 x.f1, .string x.f2, .bool x.f3]
theorem range_snoc' (k : Nat) : List.range (k + 1) = List.range k ++ [k] := List.range_succ
set_option maxRecDepth 100000 in
set_option maxHeartbeats 2000000 in
theorem vals_in (n : Nat) (hn : 1 ≤ n) (l B : Nat) (w0 : World) (A : Option Addr) (c : Nat) (M : List S24) (hM : M.length ≤ 1152921504606846976) (hC0 : Kd.C k24 w0 A M.length M) (hb0 : w0.cell? ⟨B, 0, none⟩ = some (.slice A M.length c)) (J Jx : List Nat → World → Prop) (W : World)
    (hJ : AbidesFrom W.heap.size J) (hY : ∀ (pre : List Nat) (x : Nat) (W1 : World), J pre W1 → pre.length < M.length → YieldAt Fence.wide (n - 1) Try.prog l #[cellV (rd_T24 M (x : Int))] W1 fun e W' =>
      (e = .returned (.bool true) ∧ J (pre ++ [x]) W' ∧ Below w0.heap.size W1 W') ∨ (e = .returned (.bool false) ∧ Jx (pre ++ [x]) W'))
    (hW : Below w0.heap.size w0 W) (h0 : J [] W) :
    CallsIn Fence.wide n Try.prog 43 #[.func (.yield l) #[] #[], .pointer (some ⟨B, 0, none⟩)] W fun e W' => (∃ v, e = .returned v) ∧
      ((∃ ys, ys = List.range M.length ∧ J ys W') ∨ (∃ pre, pre <+: List.range M.length ∧ Jx pre W')) := by
  have hBW : W.cell? ⟨B, 0, none⟩ = some (.slice A M.length c) := (hW.cell (p := ⟨B, 0, none⟩) (World.block_lt_of_cell? w0 _ hb0)).trans hb0
  have HC0 := Aside0.mk hC0
  have HJ := Aside0.mk hJ
  have HY := Aside0.mk hY
  have HW := Aside0.mk hW
  clear hC0 hb0 hJ hY hW
  refine callsIn_of_wp Try.func43 rfl trivial ?_ rfl
  simp only [Try.ntmps43, List.size_toArray, List.length_cons, List.length_nil, Nat.reduceAdd, Nat.reduceSub, Array.replicate_succ, Array.replicate_zero, List.push_toArray, List.append_toArray, List.nil_append, List.cons_append]
  have H0 := Aside0.mk h0
  clear h0
  gi_wp2
  gi_loopg [7] M.length (fun kq v7 w' => ∃ j : Nat, v7 = .int .i64 j ∧ j ≤ M.length ∧ Aside0 (kq = M.length - j) ∧ Aside0 (J (List.range j) w') ∧ Aside0 (Below w0.heap.size w0 w') ∧ Aside0 (W.heap.size ≤ w'.heap.size))
  case atStart => exact ⟨0, rfl, Nat.zero_le _, ⟨rfl⟩, H0, HW, ⟨Nat.le_refl _⟩⟩
  case round =>
    obtain ⟨j, rfl, hj, HK, HJJ, HB, HSZ⟩ := hrel
    by_cases hlt : j < M.length
    · obtain ⟨k1, rfl⟩ : ∃ k1, gk = k1 + 1 := ⟨gk - 1, by have := HK.out; omega⟩
      have HK1 := Aside0.mk (show k1 = M.length - (j + 1) by have := HK.out; omega)
      obtain ⟨ad, ea, x0, x1, x2, x3⟩ := at_T24 (Kd.C_below HC0.out HB.out) (j : Int) (Int.natCast_nonneg _) (by omega)
      subst ea
      rw [Int.toNat_natCast] at x0 x1 x2 x3
      have hJa : J (List.range j) (wr.alloc (.cells #[.string (rd_T24 M (j : Int)).f0, .int .u64 (rd_T24 M (j : Int)).f1, .string (rd_T24 M (j : Int)).f2, .bool (rd_T24 M (j : Int)).f3] 24)) :=
        HJ.out _ _ _ none HJJ.out (World.grownBy_alloc wr _ none) (fun r e => by cases e)
      obtain ⟨fn, tmps, assign, body, hy, hR⟩ := HY.out (List.range j) j _ hJa (by simpa using hlt)
      have HSA := Aside0.mk (below_alloc HB.out (.cells #[.string (rd_T24 M (j : Int)).f0, .int .u64 (rd_T24 M (j : Int)).f1, .string (rd_T24 M (j : Int)).f2, .bool (rd_T24 M (j : Int)).f3] 24))
      clear hJa
      gi_wp2
      refine hR.mono ?_
      rintro e W3 (⟨rfl, hJ3, hk3⟩ | ⟨rfl, hJx3⟩)
      · have HJ3 := Aside0.mk hJ3
        have HB3 := Aside0.mk (HSA.out.trans hk3)
        have HS3 := Aside0.mk (show W.heap.size ≤ W3.heap.size by have h1 := hk3.size; rw [World.size_alloc] at h1; have := HSZ.out; omega)
        clear hJ3 hk3
        gi_wp2
        gi_roundg k1
        case measure => omega
        case rel => exact ⟨j + 1, by first | rfl | (congr 1; omega) | (simp; done), by omega, HK1, ⟨by rw [range_snoc']; exact HJ3.out⟩, HB3, HS3⟩
      · gi_wp2
        refine bodyPost_ret (results_none rfl _ _ _) rfl ?_
        refine ⟨⟨_, rfl⟩, .inr ⟨List.range j ++ [j], ?_, hJx3⟩⟩
        rw [← range_snoc']
        exact ⟨List.drop (j + 1) (List.range M.length), by rw [show List.range (j + 1) = (List.range M.length).take (j + 1) from by rw [List.take_range, Nat.min_eq_left (by omega)], List.take_append_drop]⟩
    · obtain rfl : j = M.length := by omega
      gi_wp2
      go_end0
      exact ⟨⟨_, rfl⟩, .inl ⟨_, rfl, HJJ.out⟩⟩
theorem vals_stops (n : Nat) (hn : 1 ≤ n) (B : Nat) (w0 : World) (A : Option Addr) (c : Nat) (M : List S24) (hM : M.length ≤ 1152921504606846976) (hC0 : Kd.C k24 w0 A M.length M) (hb0 : w0.cell? ⟨B, 0, none⟩ = some (.slice A M.length c)) (w : World) (hw : Below w0.heap.size w0 w) :
    SeqStopsK Fence.wide n Try.prog 43 #[.pointer (some ⟨B, 0, none⟩)] (fun x : Nat => #[cellV (rd_T24 M (x : Int))]) (Below w0.heap.size) (fun ys => ys = List.range M.length) (fun pre => pre <+: List.range M.length) M.length w := fun l J Jx W hW hJ _ hY h0 =>
  vals_in n hn l B w0 A c M hM hC0 hb0 J Jx W hJ hY (hw.trans (hW.mono hw.size)) h0
/-- A region that draws its order and only reads, in a round. -/
theorem region_quiet_round {F : Fence} {n : Nat} {P : Program} {id : Nat} {Q : Exit → Act → World → Prop} {a : Act} {w : World} {ops : List Oper} (l : Nat) (hro : F.round = none) (hm : P.follows .mixedOrders = true) (hB : Region.lexB .any ops.toArray = true) (hd : noDefer ops.toArray = true)
    (h : wpQuietIn F n P ops.toArray (fun w' => ∃ n, w' = w.drewN n) (fun a' => ∀ w', (∃ n, w' = w.drewN n) → Q .normal a' w') ops a) : (Code.region id ops.toArray true).wpIn (F.inRound l) n P Q a w := by
  simp only [Region.lexB, Bool.and_eq_true] at hB
  refine wpIn_region_any hm (wpAnyIn_inRound l (noDefer_spec hd) _ _ _ _ (wpAnyIn_of_quiet (C := fun w' => ∃ n, w' = w.drewN n) (Q := fun a' => ∀ w', (∃ n, w' = w.drewN n) → Q .normal a' w') hro (fun _ w' hw' h => h w' hw') _ _ _ _ ⟨1, rfl⟩ ?_))
  have := wpAnyQIn_lex (F := F) (n := n) (C := fun w' => ∃ n, w' = w.drewN n) (md := .any) hB.1 ops 0 (Array.replicate ops.toArray.size false) a (by simp) (by simpa using hB.2) h
  simpa using this
section
attribute [local go_sem high] eqA24

/-- The variables of Goes: the list, the stop, the answer, the round, the count; the marks. -/
structure GEnv (w0 : World) (Aw : Option Addr) (n cw : Nat) (stop r : Int) (Br Bi : Nat) (i : Int) (Ds : List Nat) (W : World) : Prop where
  below : Below w0.heap.size w0 W
  bw : W.heap[w0.heap.size]? = some (.cells #[.slice Aw n cw] 25 (0, 0))
  bs : W.heap[w0.heap.size + 1]? = some (.cells #[.int .i64 stop] 3 (0, 0))
  bo : W.heap[w0.heap.size + 2]? = some (.cells #[.bool false] 4 (0, 0))
  br : W.heap[Br]? = some (.cells #[.int .i64 r] 3 (0, 0))
  bi : W.heap[Bi]? = some (.cells #[.int .i64 i] 3 (0, 0))
  ds : ∀ D ∈ Ds, w0.heap.size ≤ D ∧ W.heap[D]? = some (.deferred (some []))
theorem GEnv.move {w0 W W' : World} {Aw : Option Addr} {n cw : Nat} {stop r i : Int} {Br Bi : Nat} {Ds : List Nat} (h : GEnv w0 Aw n cw stop r Br Bi i Ds W) (hb : Below w0.heap.size w0 W') (hc : ∀ (k : Nat) cs t, W.heap[k]? = some (.cells cs t (0, 0)) → W'.heap[k]? = W.heap[k]?) (hd : ∀ D ∈ Ds, W'.heap[D]? = W.heap[D]?) : GEnv w0 Aw n cw stop r Br Bi i Ds W' :=
  ⟨hb, (hc _ _ _ h.bw).trans h.bw, (hc _ _ _ h.bs).trans h.bs, (hc _ _ _ h.bo).trans h.bo, (hc _ _ _ h.br).trans h.br, (hc _ _ _ h.bi).trans h.bi, fun D hD => ⟨(h.ds D hD).1, (hd D hD).trans (h.ds D hD).2⟩⟩
theorem GEnv.next {w0 W W' : World} {Aw : Option Addr} {n cw : Nat} {stop r i : Int} {Br Bi : Nat} {Ds : List Nat} (h : GEnv w0 Aw n cw stop r Br Bi i Ds W) (hb : Below W.heap.size W W') : GEnv w0 Aw n cw stop r Br Bi i Ds W' :=
  h.move (h.below.trans (hb.mono h.below.size)) (fun k cs t hk => hb.block k (Array.getElem?_eq_some_iff.1 hk).1) (fun D hD => hb.block D (Array.getElem?_eq_some_iff.1 (h.ds D hD).2).1)
theorem GEnv.own {β : Type} (w0 : World) (Aw : Option Addr) (n cw : Nat) (stop r : Int) (Br Bi : Nat) (f : β → Int) (Ds : List Nat) (B : Nat) (hB : w0.heap.size ≤ B) (hD : ∀ D ∈ Ds, D < B) : OwnFrom B (fun s W => GEnv w0 Aw n cw stop r Br Bi (f s) Ds W) := fun s W W' row h hg hr => by
  refine h.move (h.below.grown hg h.below.size (fun k e => Nat.le_trans hB (hr k e).1)) (fun k cs t hk => hg.block k (Array.getElem?_eq_some_iff.1 hk).1 (fun e => ?_)) (fun D hDD => hg.block D (Array.getElem?_eq_some_iff.1 (h.ds D hDD).2).1 (fun e => ?_))
  · obtain ⟨_, o, ho, hn⟩ := hr k e.symm
    rw [hk] at ho
    cases ho
    cases hn
  · have h1 := (hr D e.symm).1
    have h2 := hD D hDD
    omega
theorem genv_start (w0 : World) (Aw : Option Addr) (n cw : Nat) (stop : Int) : GEnv w0 Aw n cw stop 0 (w0.heap.size + 1 + 1 + 1) (w0.heap.size + 1 + 1 + 1) 0 [] ((((w0.alloc (Obj.cells #[Value.slice Aw n cw] 25)).alloc (Obj.cells #[Value.int IntKind.i64 stop] 3)).alloc (Obj.cells #[Value.bool false] 4)).alloc (Obj.cells #[Value.int IntKind.i64 0] 3)) := by
  have e1 : (w0.alloc (Obj.cells #[Value.slice Aw n cw] 25)).heap.size = w0.heap.size + 1 := World.size_alloc _ _
  have e2 : ((w0.alloc (Obj.cells #[Value.slice Aw n cw] 25)).alloc (Obj.cells #[Value.int IntKind.i64 stop] 3)).heap.size = w0.heap.size + 2 := by rw [World.size_alloc, e1]
  have e3 : (((w0.alloc (Obj.cells #[Value.slice Aw n cw] 25)).alloc (Obj.cells #[Value.int IntKind.i64 stop] 3)).alloc (Obj.cells #[Value.bool false] 4)).heap.size = w0.heap.size + 3 := by rw [World.size_alloc, e2]
  have hb := below_alloc (below_alloc (below_alloc (below_alloc (Below.refl w0.heap.size w0) (Obj.cells #[Value.slice Aw n cw] 25)) (Obj.cells #[Value.int IntKind.i64 stop] 3)) (Obj.cells #[Value.bool false] 4)) (Obj.cells #[Value.int IntKind.i64 0] 3)
  have h4 := alloc_heap_new' (((w0.alloc (Obj.cells #[Value.slice Aw n cw] 25)).alloc (Obj.cells #[Value.int IntKind.i64 stop] 3)).alloc (Obj.cells #[Value.bool false] 4)) (Obj.cells #[Value.int IntKind.i64 0] 3)
  rw [e3] at h4
  refine ⟨hb, ?_, ?_, ?_, h4, h4, by simp⟩
  · exact (Below.heap_alloc _ _ _ (by omega)).trans ((Below.heap_alloc _ _ _ (by omega)).trans ((Below.heap_alloc _ _ _ (by omega)).trans (alloc_heap_new' w0 _)))
  · have h := alloc_heap_new' (w0.alloc (Obj.cells #[Value.slice Aw n cw] 25)) (Obj.cells #[Value.int IntKind.i64 stop] 3)
    rw [e1] at h
    exact (Below.heap_alloc _ _ _ (by omega)).trans ((Below.heap_alloc _ _ _ (by omega)).trans h)
  · have h := alloc_heap_new' ((w0.alloc (Obj.cells #[Value.slice Aw n cw] 25)).alloc (Obj.cells #[Value.int IntKind.i64 stop] 3)) (Obj.cells #[Value.bool false] 4)
    rw [e2] at h
    exact (Below.heap_alloc _ _ _ (by omega)).trans h
/-- i++. -/
theorem GEnv.count {w0 W : World} {Aw : Option Addr} {n cw : Nat} {stop r i : Int} {Br Bi : Nat} {Ds : List Nat} (h : GEnv w0 Aw n cw stop r Br Bi i Ds W) (h1 : w0.heap.size + 2 < Bi) (h2 : Br ≠ Bi) (j : Int) : GEnv w0 Aw n cw stop r Br Bi j Ds (W.setCell ⟨Bi, 0, none⟩ (.int .i64 j)) :=
  ⟨h.below.setCell (p := ⟨Bi, 0, none⟩) (by show w0.heap.size ≤ Bi; omega) _, (Below.heap_setCell _ _ _ _ (by show w0.heap.size ≠ Bi; omega)).trans h.bw, (Below.heap_setCell _ _ _ _ (by show w0.heap.size + 1 ≠ Bi; omega)).trans h.bs, (Below.heap_setCell _ _ _ _ (by show w0.heap.size + 2 ≠ Bi; omega)).trans h.bo, (Below.heap_setCell _ _ _ _ (by show Br ≠ Bi; exact h2)).trans h.br, blk_set h.bi 0 _, fun D hD => ⟨(h.ds D hD).1, (KeepsOthers.setCell W _ _).same D _ (h.ds D hD).2 rfl⟩⟩
theorem prefix_range {n : Nat} {pre : List Nat} (h : pre <+: List.range n) : pre = List.range pre.length := by
  have h1 := List.prefix_iff_eq_take.1 h
  have h2 := h.length_le
  rw [List.length_range] at h2
  rw [List.take_range, Nat.min_eq_left h2] at h1
  exact h1
theorem wrap_next (n : Nat) (h : n < 1152921504606846976) : IntKind.i64.wrap ((n : Int) + 1) = (n : Int) + 1 := by rw [i64_w]; unfold wrap64; omega
theorem genv_end {w0 W : World} {Aw : Option Addr} {n cw : Nat} {stop r i : Int} {Br Bi : Nat} {Ds : List Nat} (h : GEnv w0 Aw n cw stop r Br Bi i Ds W) (D : Nat) (hD : w0.heap.size ≤ D) (hK : W.heap[D]? = some (.deferred (some []))) (v v2 : Int) (e : v = v2) :
    GEnv w0 Aw n cw stop v W.heap.size W.heap.size v (D :: Ds) (W.alloc (.cells #[.int .i64 v2] 3)) := by
  subst e
  have h2 := h.next (W' := W.alloc (.cells #[.int .i64 v] 3)) (below_alloc (Below.refl _ _) _)
  refine ⟨h2.below, h2.bw, h2.bs, h2.bo, alloc_heap_new' W _, alloc_heap_new' W _, ?_⟩
  intro D' hD'
  rcases List.mem_cons.1 hD' with rfl | hm
  · exact ⟨hD, (Below.heap_alloc _ _ _ (Array.getElem?_eq_some_iff.1 hK).1).trans hK⟩
  · exact h2.ds D' hm
theorem genv_body {w0 W : World} {Aw : Option Addr} {n cw : Nat} {stop r i : Int} {Br Bi : Nat} {Ds : List Nat} (h : GEnv w0 Aw n cw stop r Br Bi i Ds W) (h1 : w0.heap.size + 2 < Bi) (h2 : Br ≠ Bi) (ys : List Nat) (nq : Nat) (v : Int) (e : (ys.length : Int) = v) :
    KeepsOthers W ((W.drewN nq).setCell ⟨Bi, 0, none⟩ (.int .i64 v)) ∧ Below w0.heap.size W ((W.drewN nq).setCell ⟨Bi, 0, none⟩ (.int .i64 v)) ∧ GEnv w0 Aw n cw stop r Br Bi (ys.length : Int) Ds ((W.drewN nq).setCell ⟨Bi, 0, none⟩ (.int .i64 v)) := by
  subst e
  have hb := pw_below_drewN (Below.refl W.heap.size W) nq
  refine ⟨(keepsOthers_below hb).trans (KeepsOthers.setCell _ _ _), (hb.mono h.below.size).setCell (p := ⟨Bi, 0, none⟩) (by show w0.heap.size ≤ Bi; omega) _, (h.next hb).count h1 h2 _⟩
theorem genv_count0 {w0 W : World} {Aw : Option Addr} {n cw : Nat} {stop r i : Int} {Br Bi : Nat} {Ds : List Nat} (h : GEnv w0 Aw n cw stop r Br Bi i Ds W) : GEnv w0 Aw n cw stop r Br W.heap.size 0 Ds (W.alloc (.cells #[.int .i64 0] 3)) := by
  have h2 := h.next (W' := W.alloc (.cells #[.int .i64 0] 3)) (below_alloc (Below.refl _ _) _)
  exact ⟨h2.below, h2.bw, h2.bs, h2.bo, h2.br, alloc_heap_new' W _, h2.ds⟩
theorem results_flag {fn : Func} {p : Tmp} (h : fn.results = #[.cell p 4]) (tmps : Array Value) (w : World) (g : Nat) (b : Bool) (hp : tmps.getD p undef = .pointer (some ⟨g, 0, none⟩)) (hg : w.heap[g]? = some (.cells #[.bool b] 4 (0, 0))) :
    (results fn tmps).run Try.prog w = .ok (.bool b) w := by
  have hp' : tmps[p]?.getD undef = .pointer (some ⟨g, 0, none⟩) := by simpa using hp
  have hc := (blk_cell1 hg 0 rfl).1
  have hagg : (isAgg 4).run Try.prog w = .ok false w := by kernel_rfl
  simp [results, h, hp', asAddr, loadVar, Sem.run_bind, hagg, hc]
set_option maxHeartbeats 4000000 in
set_option maxRecDepth 100000 in
theorem goes_calls (Aw : Option Addr) (cw : Nat) (M : List S24) (B : Nat) (AM : Option Addr) (cM : Nat) (stop : Int) (w0 : World) (hM : M.length ≤ 1152921504606846976) (hCw : Kd.C k24 w0 Aw M.length M) (hcw : M.length ≤ cw) (hCM : Kd.C k24 w0 AM M.length M) (hbM : w0.cell? ⟨B, 0, none⟩ = some (.slice AM M.length cM)) :
    Calls Try.prog 19 #[.func (.func 43) #[] #[.pointer (some ⟨B, 0, none⟩)], .slice Aw M.length cw, .int .i64 stop] w0 fun e w' => e = .returned (.bool true) ∧ Below w0.heap.size w0 w' := by
  have heql : ∀ (B : Nat) (w : World), (binOp .eql 37 (.func (.func 43) #[] #[.pointer (some ⟨B, 0, none⟩)]) .nilFunc).run Try.prog w = .ok (.bool false) w := fun _ _ => by kernel_rfl
  have HCW := Aside0.mk hCw
  have HCM := Aside0.mk hCM
  have HBM := Aside0.mk hbM
  clear hCw hCM hbM
  refine (callsIn_wide (n := 9)).1 ?_
  refine callsIn_of_wp_marks Try.func19 rfl trivial ?_ rfl
  simp only [Try.ntmps19, List.size_toArray, List.length_cons, List.length_nil, Nat.reduceAdd, Nat.reduceSub, Array.replicate_succ, Array.replicate_zero, List.push_toArray, List.append_toArray, List.nil_append, List.cons_append]
  gi_wp2
  have hst : GEnv w0 Aw M.length cw stop 0 (w0.heap.size + 1 + 1 + 1) (w0.heap.size + 1 + 1 + 1) 0 [] ((((w0.alloc (Obj.cells #[Value.slice Aw M.length cw] 25)).alloc (Obj.cells #[Value.int IntKind.i64 stop] 3)).alloc (Obj.cells #[Value.bool false] 4)).alloc (Obj.cells #[Value.int IntKind.i64 0] 3)) := genv_start w0 Aw M.length cw stop
  have HST := Aside0.mk hst
  clear hst
  generalize ((((w0.alloc (Obj.cells #[Value.slice Aw M.length cw] 25)).alloc (Obj.cells #[Value.int IntKind.i64 stop] 3)).alloc (Obj.cells #[Value.bool false] 4)).alloc (Obj.cells #[Value.int IntKind.i64 0] 3)) = Ws at HST ⊢
  refine wpIn_loop (fun a' W => ∃ (r : Nat) (Br : Nat) (Ds : List Nat) (u8 u12 u13 u14 u15 u16 u39 u40 u41 u42 u43 u44 u45 u46 u47 u48 u49 u50 u51 u52 : Value), (r ≤ 2 ∧ intOf u15 = r ∧ Ds.Nodup ∧ w0.heap.size + 2 < Br ∧ GEnv w0 Aw M.length cw stop r Br Br r Ds W) ∧ a' = { tmps := #[Value.func (Fn.func 43) #[] #[Value.pointer (some { block := B, off := 0 })], Value.slice Aw M.length cw, Value.int IntKind.i64 stop, undef, Value.pointer (some { block := w0.heap.size, off := 0 }), Value.pointer (some { block := w0.heap.size + 1, off := 0 }), Value.pointer (some { block := w0.heap.size + 1 + 1, off := 0 }), Value.pointer (some { block := Br, off := 0 }), u8, undef, Value.func (Fn.func 43) #[] #[Value.pointer (some { block := B, off := 0 })], Value.bool false, u12, u13, u14, u15, u16, undef, undef, undef, undef, undef, undef, undef, undef, undef, undef, undef, undef, undef, undef, undef, undef, undef, undef, undef, undef, undef, undef, u39, u40, u41, u42, u43, u44, u45, u46, u47, u48, u49, u50, u51, u52], defers := collMarks Ds })
    (fun a' _ => 2 - (intOf (a'.tmps.getD 15 undef)).toNat) ?_ ?_
  · exact ⟨0, _, [], _, _, _, _, _, _, _, _, _, _, _, _, _, _, _, _, _, _, _, _, ⟨by omega, rfl, List.nodup_nil, by omega, HST.out⟩, rfl⟩
  · intro a' W hinv
    obtain ⟨r, Br, Ds, u8, u12, u13, u14, u15, u16, u39, u40, u41, u42, u43, u44, u45, u46, u47, u48, u49, u50, u51, u52, ⟨hr, hu15, hnd, hBr, hat⟩, rfl⟩ := hinv
    dsimp only
    have HAT := Aside0.mk hat
    have HND := Aside0.mk hnd
    have HU15 := Aside0.mk hu15
    have hcr := (blk_cell1 hat.br 0 rfl).1
    have HBR := Aside0.mk hBr
    clear hat hnd hu15 hBr HST
    by_cases hlt : r = 2
    · subst hlt
      have hco := (blk_cell1 HAT.out.bo 0 rfl).2
      have hco1 := (blk_cell1 HAT.out.bo 0 rfl).1
      gi_wp2
      have hbo : (W.setCell ⟨w0.heap.size + 1 + 1, 0, none⟩ (.bool true)).heap[w0.heap.size + 2]? = some (.cells #[.bool true] 4 (0, 0)) := blk_set HAT.out.bo 0 (.bool true)
      have HBO := Aside0.mk hbo
      clear hbo
      have hmk : ∀ D ∈ Ds, (W.setCell ⟨w0.heap.size + 1 + 1, 0, none⟩ (.bool true)).heap[D]? = some (.deferred (some [])) := fun D hD => (KeepsOthers.setCell W _ _).same D _ (HAT.out.ds D hD).2 rfl
      refine leavesMarks Ds _ HND.out hmk (fun W' hs => ?_)
      have hbo' : W'.heap[w0.heap.size + 2]? = some (.cells #[.bool true] 4 (0, 0)) := (hs.block _ (fun hm => by have h := hmk _ hm; rw [HBO.out] at h; cases h)).trans HBO.out
      refine ⟨.bool true, results_flag rfl _ W' (w0.heap.size + 1 + 1) true rfl hbo', rfl, ?_⟩
      exact (HAT.out.below.setCell (p := ⟨w0.heap.size + 1 + 1, 0, none⟩) (by show w0.heap.size ≤ w0.heap.size + 1 + 1; omega) _).trans (hs.below (fun D hD => (HAT.out.ds D hD).1))
    · have hr01 : (r : Int) < 2 := by omega
      gi_wp2
      have hW1 : GEnv w0 Aw M.length cw stop r Br W.heap.size 0 Ds (W.alloc (.cells #[.int .i64 0] 3)) := genv_count0 HAT.out
      have hDl : ∀ D ∈ Ds, D < (W.alloc (.cells #[.int .i64 0] 3)).heap.size := fun D hD => (Array.getElem?_eq_some_iff.1 (hW1.ds D hD).2).1
      have hBrl : Br < W.heap.size := (Array.getElem?_eq_some_iff.1 HAT.out.br).1
      have HW1 := Aside0.mk hW1
      have HDL := Aside0.mk hDl
      have HBRL := Aside0.mk hBrl
      have hsz1 : (W.alloc (.cells #[.int .i64 0] 3)).heap.size = W.heap.size + 1 := World.size_alloc _ _
      clear hW1 hDl hBrl hcr
      generalize W.alloc (.cells #[.int .i64 0] 3) = W1 at HW1 HDL hsz1 ⊢
      refine wpIn_rangeFunc_ownH rfl (by omega) (gf := 43) (lb := #[Value.pointer (some ⟨B, 0, none⟩)]) rfl trivial (enters_of Try.func43 (by kernel_rfl) rfl)
        (vals_stops (9 - 1) (by omega) B w0 AM cM M hM HCM.out HBM.out W1 HW1.out.below) Below.trans (fun Wx l o o' hl ho hc hw => ?kb) (Below.refl _ _) (fun _ => rfl)
        (fun pre Wx => GEnv w0 Aw M.length cw stop r Br W.heap.size (pre.length : Int) Ds Wx)
        (fun c pre Wx => (c = .exit 2 ∧ r = 0 ∧ (pre.length : Int) = stop ∧ GEnv w0 Aw M.length cw stop r Br W.heap.size (pre.length : Int) Ds Wx) ∨ (c = .ret ∧ pre ≠ List.range pre.length))
        (GEnv.own w0 Aw M.length cw stop r Br W.heap.size (fun pre : List Nat => (pre.length : Int)) Ds W1.heap.size HW1.out.below.size (fun D hD => HDL.out D hD))
        (fun c => ?ixown) HW1.out
        (fun x a' Wx => ∃ Bx, W1.heap.size ≤ Bx ∧ Wx.heap[Bx]? = some (.cells #[.string (rd_T24 M (x : Int)).f0, .int .u64 (rd_T24 M (x : Int)).f1, .string (rd_T24 M (x : Int)).f2, .bool (rd_T24 M (x : Int)).f3] 24 (0, 0)) ∧ a' = { tmps := #[Value.func (Fn.func 43) #[] #[Value.pointer (some { block := B, off := 0 })], Value.slice Aw M.length cw, Value.int IntKind.i64 stop, undef, Value.pointer (some { block := w0.heap.size, off := 0 }), Value.pointer (some { block := w0.heap.size + 1, off := 0 }), Value.pointer (some { block := w0.heap.size + 1 + 1, off := 0 }), Value.pointer (some { block := Br, off := 0 }), Value.pointer (some { block := W.heap.size, off := 0 }), Value.pointer (some { block := Bx, off := 0 }), Value.func (Fn.func 43) #[] #[Value.pointer (some { block := B, off := 0 })], Value.bool false, Value.int .i64 r, Value.bool true, u14, u15, Value.func (Fn.func 43) #[] #[Value.pointer (some { block := B, off := 0 })], cellV (rd_T24 M (x : Int)), undef, undef, undef, undef, undef, undef, undef, undef, undef, undef, undef, undef, undef, undef, undef, undef, undef, undef, undef, undef, undef, u39, u40, u41, u42, u43, u44, u45, u46, u47, u48, u49, u50, u51, u52], defers := [] })
        (fun x a' => ?axown) ?assign ?body ?done ?stop
      case kb =>
        exact ⟨rfl, rfl, rfl, by simp [World.putObj], fun k hk => World.putObj_heap_other (by have h0 := HW1.out.below.size; omega)⟩
      case ixown =>
        intro s X Y row hx hg hr
        rcases hx with ⟨h1, h2, h3, h4⟩ | hx
        · exact .inl ⟨h1, h2, h3, GEnv.own w0 Aw M.length cw stop r Br W.heap.size (fun pre : List Nat => (pre.length : Int)) Ds W1.heap.size HW1.out.below.size (fun D hD => HDL.out D hD) s X Y row h4 hg hr⟩
        · exact .inr hx
      case axown =>
        rintro s X Y row ⟨Bx, h1, h2, h3⟩ hg hr
        refine ⟨Bx, h1, (hg.block Bx (Array.getElem?_eq_some_iff.1 h2).1 (fun e => ?_)).trans h2, h3⟩
        obtain ⟨_, o, ho, hn⟩ := hr Bx e.symm
        rw [h2] at ho
        cases ho
        cases hn
      case assign =>
        intro l pre x W2 K hI hK
        gi_wp2
        have hsz2 : W.heap.size < W2.heap.size := (Array.getElem?_eq_some_iff.1 hI.bi).1
        exact hK _ _ ((KeepsOthers.alloc _ _).from _) ((below_alloc (Below.refl _ _) _).mono hI.below.size) (hI.next (below_alloc (Below.refl _ _) _)) ⟨W2.heap.size, by omega, alloc_heap_new' W2 _, rfl⟩
      case body =>
        rintro l pre x a' W2 hl hlp hI ⟨Bx, hBx, hbx, rfl⟩ hlen
        have HI := Aside0.mk hI
        have HX := Aside0.mk hbx
        have x0 := (blk_cell1 hbx 0 rfl).1
        have x1 := (blk_cell1 hbx 1 rfl).1
        have x2 := (blk_cell1 hbx 2 rfl).1
        have x3 := (blk_cell1 hbx 3 rfl).1
        have ci := (blk_cell1 hI.bi 0 rfl).1
        have cw1 := (blk_cell1 hI.bw 0 rfl).1
        have cr := (blk_cell1 hI.br 0 rfl).1
        have cs := (blk_cell1 hI.bs 0 rfl).1
        have co := (blk_cell1 hI.bo 0 rfl).1
        have co2 := (blk_cell1 hI.bo 0 rfl).2
        have ci2 := (blk_cell1 hI.bi 0 rfl).2
        obtain ⟨ad, ea, y0, y1, y2, y3⟩ := at_T24 (Kd.C_below HCW.out HI.out.below) (pre.length : Int) (Int.natCast_nonneg _) (by omega)
        subst ea
        rw [Int.toNat_natCast] at y0 y1 y2 y3
        obtain ⟨xv, hxv⟩ : ∃ xv, rd_T24 M (x : Int) = xv := ⟨_, rfl⟩
        obtain ⟨yv, hyv⟩ : ∃ yv, rd_T24 M (pre.length : Int) = yv := ⟨_, rfl⟩
        rw [hxv] at x0 x1 x2 x3
        rw [hyv] at y0 y1 y2 y3
        have HXV := Aside0.mk hxv
        have HYV := Aside0.mk hyv
        clear hxv hyv hbx hI
        have hge : decide (M.length ≤ pre.length) = false := decide_eq_false (by omega)
        have hn1 : Br ≠ W.heap.size := by have := HBRL.out; omega
        have hn2 : w0.heap.size + 1 ≠ W.heap.size := by have := HBRL.out; have := HBR.out; omega
        have hn3 : w0.heap.size + 1 + 1 ≠ W.heap.size := by have := HBRL.out; have := HBR.out; omega
        have hwp : IntKind.i64.wrap ((pre.length : Int) + 1) = (pre.length : Int) + 1 := wrap_next _ (by omega)
        rw [HXV.out]
        have hLE := Aside0.mk (show pre.length + 1 ≤ M.length by omega)
        by_cases he1 : (xv.f0.toList == yv.f0.toList && (xv.f1 == yv.f1 && (xv.f2.toList == yv.f2.toList && (xv.f3 == yv.f3)))) = true
        · gi_wp2
          refine region_quiet_round l rfl (by kernel_rfl) (by kernel_rfl) (by kernel_rfl) ?_
          repeat (gi_big_quiet_step (fail))
          refine wpQuietIn_nil ?_
          rintro _ ⟨nq, rfl⟩
          (try rw [he1])
          gi_wp2
          all_goals obtain ⟨g1, g2, g3⟩ := genv_body HI.out (by have := HBRL.out; have := HBR.out; omega) hn1 (pre ++ [x]) nq ((pre.length : Int) + 1) (by simp)
          all_goals first
            | exact ⟨g1.from _, g2, g3⟩
            | exact ⟨g1.from _, .inl ⟨rfl, by omega, by first | (simp; omega) | simp_all, g3⟩⟩
        · have he1 := Bool.eq_false_iff.mpr he1
          gi_wp2
          refine region_quiet_round l rfl (by kernel_rfl) (by kernel_rfl) (by kernel_rfl) ?_
          repeat (gi_big_quiet_step (fail))
          refine wpQuietIn_nil ?_
          rintro _ ⟨nq, rfl⟩
          (try rw [he1])
          gi_wp2
          refine ⟨((keepsOthers_below (pw_below_drewN (Below.refl _ _) nq)).trans (KeepsOthers.setCell _ _ _)).from _, .inr ⟨rfl, fun e => ?_⟩⟩
          rw [List.length_append, List.length_singleton, range_snoc'] at e
          have e2 := (List.append_inj' e rfl).2
          obtain rfl : x = pre.length := by simpa using e2
          rw [HYV.out] at HXV
          have e3 := HXV.out
          subst e3
          simp at he1
      case done =>
        rintro D ys W2 hD rfl hI hK
        have HI := Aside0.mk hI
        have HK := Aside0.mk hK
        have ci := (blk_cell1 hI.bi 0 rfl).1
        have cw1 := (blk_cell1 hI.bw 0 rfl).1
        have cr := (blk_cell1 hI.br 0 rfl).1
        have cs := (blk_cell1 hI.bs 0 rfl).1
        clear hI hK
        rw [List.length_range] at HI ci
        gi_wp2
        exact ⟨⟨r + 1, _, D :: Ds, _, _, _, _, _, _, _, _, _, _, _, _, _, _, _, _, _, _, _, _, ⟨by omega, by simp [intOf], List.nodup_cons.2 ⟨fun hm => by have := HDL.out D hm; omega, HND.out⟩, by have := (Array.getElem?_eq_some_iff.1 HI.out.bo).1; omega, genv_end HI.out D (by have := HW1.out.below.size; omega) HK.out ((r + 1 : Nat) : Int) ((r : Int) + 1) (by omega)⟩, rfl⟩, by show 2 - (intOf _).toNat < 2 - (intOf u15).toNat; rw [HU15.out]; simp [intOf] <;> omega⟩
      case stop =>
        rintro D c pre W2 hD hp hIx hK
        rcases hIx with ⟨rfl, rfl, hst, hI⟩ | ⟨rfl, hne⟩
        rotate_left
        · exact absurd (prefix_range hp) hne
        have HI := Aside0.mk hI
        have HK := Aside0.mk hK
        have ci := (blk_cell1 hI.bi 0 rfl).1
        have cw1 := (blk_cell1 hI.bw 0 rfl).1
        have cr := (blk_cell1 hI.br 0 rfl).1
        have cs := (blk_cell1 hI.bs 0 rfl).1
        clear hI hK
        subst hst
        by_cases hpl : pre.length = M.length
        · have hne2 : ((pre.length : Int) != (M.length : Int)) = false := by simp [hpl]
          gi_wp2
          exact ⟨⟨1, _, D :: Ds, _, _, _, _, _, _, _, _, _, _, _, _, _, _, _, _, _, _, _, _, ⟨by omega, by simp [intOf], List.nodup_cons.2 ⟨fun hm => by have := HDL.out D hm; omega, HND.out⟩, by have := (Array.getElem?_eq_some_iff.1 HI.out.bo).1; omega, genv_end HI.out D (by have := HW1.out.below.size; omega) HK.out ((1 : Nat) : Int) 1 (by rfl)⟩, rfl⟩, by show 2 - (intOf _).toNat < 2 - (intOf u15).toNat; rw [HU15.out]; simp [intOf] <;> omega⟩
        · have hne2 : ((pre.length : Int) != (M.length : Int)) = true := by simp; omega
          gi_wp2
          exact ⟨⟨1, _, D :: Ds, _, _, _, _, _, _, _, _, _, _, _, _, _, _, _, _, _, _, _, _, ⟨by omega, by simp [intOf], List.nodup_cons.2 ⟨fun hm => by have := HDL.out D hm; omega, HND.out⟩, by have := (Array.getElem?_eq_some_iff.1 HI.out.bo).1; omega, genv_end HI.out D (by have := HW1.out.below.size; omega) HK.out ((1 : Nat) : Int) 1 (by rfl)⟩, rfl⟩, by show 2 - (intOf _).toNat < 2 - (intOf u15).toNat; rw [HU15.out]; simp [intOf] <;> omega⟩
end
theorem C_lit3b {W : World} {g t : Nat} {A1 A2 A3 : Option Addr} {c1 c2 c3 : Nat} (x1 x2 x3 : List S24) (h : W.heap[g]? = some (.cells #[.slice A1 x1.length c1, .slice A2 x2.length c2, .slice A3 x3.length c3] t (0, 0))) (h1 : Kd.C k24 W A1 x1.length x1) (l1 : x1.length ≤ c1) (h2 : Kd.C k24 W A2 x2.length x2) (l2 : x2.length ≤ c2) (h3 : Kd.C k24 W A3 x3.length x3) (l3 : x3.length ≤ c3) :
    Kd.C (Kd.slice 24 k24) W (some ⟨g, 0, none⟩) 3 [x1, x2, x3] := by
  refine ⟨rfl, by decide, fun _ => ⟨_, rfl, fun j p hj => ?_⟩⟩
  match j, hj with
  | 0, hj =>
    obtain rfl : x1 = p := by simpa using hj
    refine ⟨[.slice A1 x1.length c1], rfl, ⟨A1, c1, rfl, l1, h1⟩, fun i u hu => ?_⟩
    match i, hu with
    | 0, hu => rw [cell_add0]; exact (blk_cell1 h 0 (by simpa using hu)).1
    | i + 1, hu => simp at hu
  | 1, hj =>
    obtain rfl : x2 = p := by simpa using hj
    refine ⟨[.slice A2 x2.length c2], rfl, ⟨A2, c2, rfl, l2, h2⟩, fun i u hu => ?_⟩
    match i, hu with
    | 0, hu => rw [cell_add0]; exact (blk_cell1 h 1 (by simpa using hu)).1
    | i + 1, hu => simp at hu
  | 2, hj =>
    obtain rfl : x3 = p := by simpa using hj
    refine ⟨[.slice A3 x3.length c3], rfl, ⟨A3, c3, rfl, l3, h3⟩, fun i u hu => ?_⟩
    match i, hu with
    | 0, hu => rw [cell_add0]; exact (blk_cell1 h 2 (by simpa using hu)).1
    | i + 1, hu => simp at hu
  | j + 3, hj => simp at hj

/-- A row of one's own, made at or beyond b: it may be written. -/
def ZRow (b : Nat) (W : World) (A : Option Addr) (n : Nat) : Prop := n = 0 ∨ ∃ G cs, A = some ⟨G, 0, none⟩ ∧ b ≤ G ∧ W.heap[G]? = some (.cells cs 24 (0, 0)) ∧ n * 4 ≤ cs.size
theorem zrow_of {b base c : Nat} {W : World} {A : Option Addr} {ok : Nat → Prop} {xs : List S24} (h : Kd.R k24 24 W base ok (.slice A xs.length c) xs) (hb : b ≤ base) : ZRow b W A xs.length := by
  obtain ⟨inner, _, ho⟩ := Kd.R_own h
  rcases ho with ⟨_, h0⟩ | ⟨g, cap, cur, hv, hg, hc, h1, h2, h3, h4⟩
  · exact .inl h0
  · simp only [Value.slice.injEq] at hv
    obtain ⟨rfl, _, _⟩ := hv
    exact .inr ⟨g, cur, rfl, by omega, hc, by rw [h3]; exact Nat.mul_le_mul_right 4 h1⟩
theorem ZRow.below {b n : Nat} {W W' : World} {A : Option Addr} (h : ZRow b W A n) (hb : Below W.heap.size W W') : ZRow b W' A n := by
  rcases h with h | ⟨G, cs, h1, h2, h3, h4⟩
  · exact .inl h
  · exact .inr ⟨G, cs, h1, h2, (hb.block G (Array.getElem?_eq_some_iff.1 h3).1).trans h3, h4⟩
theorem ZRow.set {b n G : Nat} {W : World} {cs : Array Value} (hG : b ≤ G) (hrow : W.heap[G]? = some (.cells cs 24 (0, 0))) (hsz : n * 4 ≤ cs.size) (i : Nat) (u0 u1 u2 u3 : Value) :
    ZRow b ((((W.setCell ⟨G, i * 4, none⟩ u0).setCell ⟨G, i * 4 + 1, none⟩ u1).setCell ⟨G, i * 4 + 2, none⟩ u2).setCell ⟨G, i * 4 + 3, none⟩ u3) (some ⟨G, 0, none⟩) n ∧ ∀ w4 : World, w4.heap.size = b → Below w4.heap.size w4 W → Below w4.heap.size w4 ((((W.setCell ⟨G, i * 4, none⟩ u0).setCell ⟨G, i * 4 + 1, none⟩ u1).setCell ⟨G, i * 4 + 2, none⟩ u2).setCell ⟨G, i * 4 + 3, none⟩ u3) := by
  constructor
  · exact .inr ⟨G, _, rfl, hG, blk_set (blk_set (blk_set (blk_set hrow _ u0) _ u1) _ u2) _ u3, by simpa using hsz⟩
  · intro w4 e h
    exact (((h.setCell (p := ⟨G, i * 4, none⟩) (by show w4.heap.size ≤ G; omega) _).setCell (p := ⟨G, i * 4 + 1, none⟩) (by show w4.heap.size ≤ G; omega) _).setCell (p := ⟨G, i * 4 + 2, none⟩) (by show w4.heap.size ≤ G; omega) _).setCell (p := ⟨G, i * 4 + 3, none⟩) (by show w4.heap.size ≤ G; omega) _
theorem C_nil {W : World} : Kd.C (Kd.slice 24 k24) W none 0 [] := ⟨rfl, by decide, fun h => absurd h (by decide)⟩
set_option maxHeartbeats 4000000 in
set_option maxRecDepth 100000 in
theorem lists_walk (k : Nat) (A0 : Option Addr) (c0 : Nat) (l0 : List S24) (A1 : Option Addr) (c1 : Nat) (l1 : List S24) (A2 : Option Addr) (c2 : Nat) (l2 : List S24) (stop : Int) (w : World) (hr0 : Kd.C k24 w A0 l0.length l0) (hc0 : l0.length ≤ c0) (hr1 : Kd.C k24 w A1 l1.length l1) (hc1 : l1.length ≤ c1) (hr2 : Kd.C k24 w A2 l2.length l2) (hc2 : l2.length ≤ c2)
    (hb0 : l0.length ≤ 1048576) (hb1 : l1.length ≤ 1048576) (hb2 : l2.length ≤ 1048576)
    (M : List S24) (hm : merge_Merge.f [l0, l1, l2] = some M) (hmr : atriumref10_Merge.f k [l0, l1, l2] = some M) (hme : merge_Merge.f [] = some []) (hM : M.length ≤ 1152921504606846976) (hs0 : atriumlaw10_same.f k l0 l0 = some true) (hs1 : atriumlaw10_same.f k l1 l1 = some true) (hs2 : atriumlaw10_same.f k l2 l2 = some true) (hsm : atriumlaw10_same.f k M M = some true) :
    Calls Try.prog 4 #[.agg #[.slice A0 l0.length c0, .slice A1 l1.length c1, .slice A2 l2.length c2], .int .i64 stop] w fun e w' => e = .returned (.bool true) ∧ Below w.heap.size w w' := by
  have HR0 := Aside0.mk hr0
  have HR1 := Aside0.mk hr1
  have HR2 := Aside0.mk hr2
  have HM := Aside0.mk hm
  have HMR := Aside0.mk hmr
  have HME := Aside0.mk hme
  have HS0 := Aside0.mk hs0
  have HS1 := Aside0.mk hs1
  have HS2 := Aside0.mk hs2
  have HSM := Aside0.mk hsm
  clear hr0 hr1 hr2 hm hmr hme hs0 hs1 hs2 hsm
  go_enter Try.func4, Try.ntmps4
  go_wp2_with fail
  go_quiet (fail)
  have t0 : True := trivial
  go_wp2_with (first
    | (go_at_call 11; have _t := t0; refine (atriumlaw10_awake.calls true _ rfl).mono ?_; rintro e wa ⟨rfl, hb⟩; have HB := Aside0.mk ((pw_below_drewN (below_alloc (Below.refl w.heap.size w) (.cells #[.slice A0 l0.length c0, .slice A1 l1.length c1, .slice A2 l2.length c2] 30)) nq).trans (hb.mono (by simp))); have t1 : True := trivial; clear hb _t t0)
    | ((with_reducible refine gate_dst (N := 22) rfl ?_); have _t := t1; refine Kd.R_lit k24 _ 24 ?hg (N := 22) ?hd (xs := ([] : List (S24))) (inner := []) (ok := fun _ => True) (okp := fun _ => True) ?hr ?hp (fun _ hk => hk) trivial (Below.refl _ _) (Nat.le_refl _) (by simp) ?_; (case hd => rfl); (case hg => rfl); (case hr => first | (go_simp; done) | (go_simp; rfl)); (case hp => exact (Reps.none _ _)); intro v22 w22 ho hb hg_ hnew_; have HO22 := Aside0.mk ho; have HB22 := Aside0.mk hb; have t2 : True := trivial; clear hg_ hnew_ ho hb _t t1)
    | ((with_reducible refine gate_builtin (b := .append) (xs := #[.tmp 22, .tmp 23]) rfl ?_); at_builtin; have _t := t2; refine Kd.R_append_rows k24 (w0 := wa) wa.heap.size rfl (.tmp 22) (.tmp 23) 25 24 (.agg #[(.string ⟨#[]⟩), (.int .u64 0), (.string ⟨#[]⟩), (.bool false)]) 48 rfl Try.underlying25 info24 rfl (by decide) (by omega) v22 [] l0 _ _ _ (fun _ => True) (fun _ => False) rfl rfl ?aO ?aR (fun _ _ h => h) (fun _ h => h.elim) ?aF ?aB ?aS ?aL ?_; (case aR => exact (Kd.C_below HR0.out (HB.out.trans (HB22.out.mono HB.out.size)))); (case aB => exact HB22.out); (case aF => exact (fun _ _ => trivial)); (case aO => exact HO22.out); (case aS => exact HB22.out.size); (case aL => simp; omega); intro v24 w24 ho hb hg hat; have HB24 := Aside0.mk hb; rw [List.nil_append] at ho; obtain ⟨A24, c24, rfl, hc24, hC24⟩ := Kd.R_reads ho; have HC24 := Aside0.mk hC24; have HL24 := Aside0.mk hc24; have HX := Aside0.mk (HB.out.trans (HB24.out.mono HB.out.size)); have t3 : True := trivial; clear ho hb hg hat hC24 hc24 _t t2 HO22)
    | ((with_reducible refine gate_dst (N := 25) rfl ?_); have _t := t3; refine Kd.R_lit k24 _ 24 ?hg (N := 25) ?hd (xs := ([] : List (S24))) (inner := []) (ok := fun _ => True) (okp := fun _ => True) ?hr ?hp (fun _ hk => hk) trivial (Below.refl _ _) (Nat.le_refl _) (by simp) ?_; (case hd => rfl); (case hg => rfl); (case hr => first | (go_simp; done) | (go_simp; rfl)); (case hp => exact (Reps.none _ _)); intro v25 w25 ho hb hg_ hnew_; have HO25 := Aside0.mk ho; have HB25 := Aside0.mk hb; have t4 : True := trivial; clear hg_ hnew_ ho hb _t t3)
    | ((with_reducible refine gate_builtin (b := .append) (xs := #[.tmp 25, .tmp 26]) rfl ?_); at_builtin; have _t := t4; refine Kd.R_append_rows k24 (w0 := w24) w24.heap.size rfl (.tmp 25) (.tmp 26) 25 24 (.agg #[(.string ⟨#[]⟩), (.int .u64 0), (.string ⟨#[]⟩), (.bool false)]) 48 rfl Try.underlying25 info24 rfl (by decide) (by omega) v25 [] l1 _ _ _ (fun _ => True) (fun _ => False) rfl rfl ?aO ?aR (fun _ _ h => h) (fun _ h => h.elim) ?aF ?aB ?aS ?aL ?_; (case aR => exact (Kd.C_below HR1.out (HX.out.trans (HB25.out.mono HX.out.size)))); (case aB => exact HB25.out); (case aF => exact (fun _ _ => trivial)); (case aO => exact HO25.out); (case aS => exact HB25.out.size); (case aL => simp; omega); intro v27 w27 ho hb hg hat; have HB27 := Aside0.mk hb; rw [List.nil_append] at ho; obtain ⟨A27, c27, rfl, hc27, hC27⟩ := Kd.R_reads ho; have HC27 := Aside0.mk hC27; have HL27 := Aside0.mk hc27; have HX2 := Aside0.mk (HX.out.trans (HB27.out.mono HX.out.size)); have t5 : True := trivial; clear ho hb hg hat hC27 hc27 _t t4 HO25)
    | ((with_reducible refine gate_dst (N := 28) rfl ?_); have _t := t5; refine Kd.R_lit k24 _ 24 ?hg (N := 28) ?hd (xs := ([] : List (S24))) (inner := []) (ok := fun _ => True) (okp := fun _ => True) ?hr ?hp (fun _ hk => hk) trivial (Below.refl _ _) (Nat.le_refl _) (by simp) ?_; (case hd => rfl); (case hg => rfl); (case hr => first | (go_simp; done) | (go_simp; rfl)); (case hp => exact (Reps.none _ _)); intro v28 w28 ho hb hg_ hnew_; have HO28 := Aside0.mk ho; have HB28 := Aside0.mk hb; have t6 : True := trivial; clear hg_ hnew_ ho hb _t t5)
    | ((with_reducible refine gate_builtin (b := .append) (xs := #[.tmp 28, .tmp 29]) rfl ?_); at_builtin; have _t := t6; refine Kd.R_append_rows k24 (w0 := w27) w27.heap.size rfl (.tmp 28) (.tmp 29) 25 24 (.agg #[(.string ⟨#[]⟩), (.int .u64 0), (.string ⟨#[]⟩), (.bool false)]) 48 rfl Try.underlying25 info24 rfl (by decide) (by omega) v28 [] l2 _ _ _ (fun _ => True) (fun _ => False) rfl rfl ?aO ?aR (fun _ _ h => h) (fun _ h => h.elim) ?aF ?aB ?aS ?aL ?_; (case aR => exact (Kd.C_below HR2.out (HX2.out.trans (HB28.out.mono HX2.out.size)))); (case aB => exact HB28.out); (case aF => exact (fun _ _ => trivial)); (case aO => exact HO28.out); (case aS => exact HB28.out.size); (case aL => simp; omega); intro v30 w30 ho hb hg hat; have HB30 := Aside0.mk hb; rw [List.nil_append] at ho; obtain ⟨A30, c30, rfl, hc30, hC30⟩ := Kd.R_reads ho; have HC30 := Aside0.mk hC30; have HL30 := Aside0.mk hc30; have HX3 := Aside0.mk (HX2.out.trans (HB30.out.mono HX2.out.size)); have t7 : True := trivial; clear ho hb hg hat hC30 hc30 _t t6 HO28)
    | (go_at_call 16; have _t := t7; refine (atriumref10_Merge.calls k _ _ [l0, l1, l2] M _ (C_lit3b l0 l1 l2 (alloc_heap_new' w30 _) (Kd.C_below HR0.out (below_alloc HX3.out _)) hc0 (Kd.C_below HR1.out (below_alloc HX3.out _)) hc1 (Kd.C_below HR2.out (below_alloc HX3.out _)) hc2) (by simp) HMR.out).mono ?_; rintro e w4 ⟨v, rfl, hr, hb⟩; have N4 := Aside0.mk ((below_alloc (Below.refl w30.heap.size w30) _).trans (hb.mono (by simp))); have HX4 := Aside0.mk (HX3.out.trans (N4.out.mono HX3.out.size)); obtain ⟨Aw, cw, rfl, hcw, hCw⟩ := Kd.R_reads hr; have HCW := Aside0.mk hCw; have HLW := Aside0.mk hcw; have K24 := Aside0.mk (Kd.C_below HC24.out (HB27.out.trans ((HB30.out.trans (N4.out.mono HB30.out.size)).mono HB27.out.size))); have K27 := Aside0.mk (Kd.C_below HC27.out (HB30.out.trans (N4.out.mono HB30.out.size))); have K30 := Aside0.mk (Kd.C_below HC30.out N4.out); have t8 : True := trivial; clear hr hb hcw hCw _t t7)
    | (go_at_call 17; have _t := t8; refine (merge_Merge.calls _ _ [l0, l1, l2] M _ (C_lit3b l0 l1 l2 (alloc_heap_new' w4 _) (Kd.C_alloc K24.out _) HL24.out (Kd.C_alloc K27.out _) HL27.out (Kd.C_alloc K30.out _) HL30.out) (by simp) HM.out).mono ?_; rintro e w5 ⟨v, rfl, hr, hb⟩; have N5 := Aside0.mk ((below_alloc (Below.refl w4.heap.size w4) _).trans (hb.mono (by simp))); have hr2 := hr; obtain ⟨Ag, cg, rfl, hcg, hCg⟩ := Kd.R_reads hr; have HZ := Aside0.mk (zrow_of (b := w4.heap.size) hr2 (by simp)); have HCG := Aside0.mk hCg; have HLG := Aside0.mk hcg; have NG5 := Aside0.mk (Below.refl w5.heap.size w5); have t9 : True := trivial; clear hr hr2 hb hcg hCg _t t8)
    | (go_at_call 18; have _t := t9; refine (atriumlaw10_same.calls k _ _ M _ _ M true _ HCG.out HLG.out (Kd.C_below HCW.out N5.out) HLW.out HSM.out).mono ?_; rintro e w6 ⟨rfl, hb⟩; have hb := hb.below; have N6 := Aside0.mk (N5.out.trans (hb.mono N5.out.size)); have NG6 := Aside0.mk (NG5.out.trans (hb.mono NG5.out.size)); have t10 : True := trivial; clear hb _t t9)
    | (go_at_call 20; have _t := t10; refine (merge_Cells.calls _ _ [l0, l1, l2] M _ (C_lit3b l0 l1 l2 (alloc_heap_new' w6 _) (Kd.C_below K24.out (below_alloc N6.out _)) HL24.out (Kd.C_below K27.out (below_alloc N6.out _)) HL27.out (Kd.C_below K30.out (below_alloc N6.out _)) HL30.out) (by simp) HM.out).mono ?_; rintro e w7 ⟨B, rfl, hcl⟩; have N7 := Aside0.mk ((below_alloc N6.out _).trans (hcl.below.mono (below_alloc N6.out _).size)); have NG7 := Aside0.mk ((below_alloc NG6.out _).trans (hcl.below.mono (below_alloc NG6.out _).size)); obtain ⟨vb, hbx, hrb⟩ := hcl.box; obtain ⟨AM, cM, rfl, hcM, hCM⟩ := Kd.R_reads hrb; have HCM := Aside0.mk hCM; have HBM := Aside0.mk (blk_cell1 hbx 0 rfl).1; have t11 : True := trivial; clear hcl hbx hrb hcM hCM _t t10)
    | (go_at_call 19; have _t := t11; refine (goes_calls Aw cw M B AM cM stop _ hM (Kd.C_below HCW.out N7.out) HLW.out HCM.out HBM.out).mono ?_; rintro e w8 ⟨rfl, hb⟩; have N8 := Aside0.mk (N7.out.trans (hb.mono N7.out.size)); have NG8 := Aside0.mk (NG7.out.trans (hb.mono NG7.out.size)); have t12 : True := trivial; clear hb _t t11)
    | (go_at_call 18; have _t := t12; refine (atriumlaw10_same.calls k _ _ l0 _ _ l0 true _ (Kd.C_below K24.out N8.out) HL24.out (Kd.C_below HR0.out (HX4.out.trans (N8.out.mono HX4.out.size))) hc0 HS0.out).mono ?_; rintro e w9 ⟨rfl, hb⟩; have hb := hb.below; have N9 := Aside0.mk (N8.out.trans (hb.mono N8.out.size)); have NG9 := Aside0.mk (NG8.out.trans (hb.mono NG8.out.size)); have t13 : True := trivial; clear hb _t t12)
    | (go_at_call 18; have _t := t13; refine (atriumlaw10_same.calls k _ _ l1 _ _ l1 true _ (Kd.C_below K27.out N9.out) HL27.out (Kd.C_below HR1.out (HX4.out.trans (N9.out.mono HX4.out.size))) hc1 HS1.out).mono ?_; rintro e w10 ⟨rfl, hb⟩; have hb := hb.below; have N10 := Aside0.mk (N9.out.trans (hb.mono N9.out.size)); have NG10 := Aside0.mk (NG9.out.trans (hb.mono NG9.out.size)); have t14 : True := trivial; clear hb _t t13)
    | (go_at_call 18; have _t := t14; refine (atriumlaw10_same.calls k _ _ l2 _ _ l2 true _ (Kd.C_below K30.out N10.out) HL30.out (Kd.C_below HR2.out (HX4.out.trans (N10.out.mono HX4.out.size))) hc2 HS2.out).mono ?_; rintro e w11 ⟨rfl, hb⟩; have hb := hb.below; have N11 := Aside0.mk (N10.out.trans (hb.mono N10.out.size)); have NG11 := Aside0.mk (NG10.out.trans (hb.mono NG10.out.size)); have t15 : True := trivial; clear hb _t t14))
  go_loopg [76] M.length (fun kq v76 w' => ∃ i : Nat, v76 = .int .i64 i ∧ i ≤ M.length ∧ Aside0 (kq = M.length - i) ∧ Aside0 (Below w4.heap.size w4 w') ∧ Aside0 (ZRow w4.heap.size w' Ag M.length))
  case atStart => exact ⟨0, rfl, Nat.zero_le _, ⟨rfl⟩, N11, ⟨HZ.out.below NG11.out⟩⟩
  case round =>
    obtain ⟨i, rfl, hi, HK, HBW, HZR⟩ := hrel
    by_cases hil : i < M.length
    · obtain ⟨k1, rfl⟩ : ∃ k1, gk = k1 + 1 := ⟨gk - 1, by have := HK.out; omega⟩
      have HK1 := Aside0.mk (show k1 = M.length - (i + 1) by have := HK.out; omega)
      rcases HZR.out with h0 | ⟨G, cs, eA, hG, hrow, hsz⟩
      · omega
      subst eA
      have z0 := blk_cell1 hrow (i * 4) (Array.getElem?_eq_getElem (by omega))
      have z1 := blk_cell1 hrow (i * 4 + 1) (Array.getElem?_eq_getElem (by omega))
      have z2 := blk_cell1 hrow (i * 4 + 2) (Array.getElem?_eq_getElem (by omega))
      have z3 := blk_cell1 hrow (i * 4 + 3) (Array.getElem?_eq_getElem (by omega))
      obtain ⟨x0, y0⟩ := z0
      obtain ⟨x1, y1⟩ := z1
      obtain ⟨x2, y2⟩ := z2
      obtain ⟨x3, y3⟩ := z3
      obtain ⟨v1, g1⟩ := cell_setCell_some (p := ⟨G, i * 4, none⟩) (x := .string ⟨#[]⟩) x1
      obtain ⟨v2, g2⟩ := cell_setCell_some (p := ⟨G, i * 4, none⟩) (x := .string ⟨#[]⟩) x2
      obtain ⟨v3, g3⟩ := cell_setCell_some (p := ⟨G, i * 4, none⟩) (x := .string ⟨#[]⟩) x3
      obtain ⟨v4, g4⟩ := cell_setCell_some (p := ⟨G, i * 4 + 1, none⟩) (x := .int .u64 0) g2
      obtain ⟨v5, g5⟩ := cell_setCell_some (p := ⟨G, i * 4 + 1, none⟩) (x := .int .u64 0) g3
      obtain ⟨v6, g6⟩ := cell_setCell_some (p := ⟨G, i * 4 + 2, none⟩) (x := .string ⟨#[]⟩) g5
      have HZ2 := Aside0.mk (ZRow.set (b := w4.heap.size) (n := M.length) hG hrow hsz i (.string ⟨#[]⟩) (.int .u64 0) (.string ⟨#[]⟩) (.bool false))
      clear hrow
      go_wp2_with fail
      go_roundg k1
      case measure => omega
      case rel => exact ⟨i + 1, by first | rfl | (congr 1; omega) | (simp; done), by omega, HK1, ⟨HZ2.out.2 w4 rfl HBW.out⟩, ⟨HZ2.out.1⟩⟩
    · obtain rfl : i = M.length := by omega
      have t16 : True := trivial
      go_wp2_with (first
        | (go_at_call 17; have _t := t16; refine (merge_Merge.calls _ _ [l0, l1, l2] M _ (C_lit3b l0 l1 l2 (alloc_heap_new' _ _) (Kd.C_below K24.out (below_alloc HBW.out _)) HL24.out (Kd.C_below K27.out (below_alloc HBW.out _)) HL27.out (Kd.C_below K30.out (below_alloc HBW.out _)) HL30.out) (by simp) HM.out).mono ?_; rintro e w12 ⟨v, rfl, hr, hb⟩; have N12 := Aside0.mk ((below_alloc HBW.out _).trans (hb.mono (below_alloc HBW.out _).size)); obtain ⟨A12, c12, rfl, hc12, hC12⟩ := Kd.R_reads hr; have HC12 := Aside0.mk hC12; have HL12 := Aside0.mk hc12; have t17 : True := trivial; clear hr hb hc12 hC12 _t t16)
        | (go_at_call 18; have _t := t17; refine (atriumlaw10_same.calls k _ _ M _ _ M true _ HC12.out HL12.out (Kd.C_below HCW.out N12.out) HLW.out HSM.out).mono ?_; rintro e w13 ⟨rfl, hb⟩; have hb := hb.below; have N13 := Aside0.mk (N12.out.trans (hb.mono N12.out.size)); have t18 : True := trivial; clear hb _t t17)
        | (go_at_call 17; have _t := t18; refine (merge_Merge.calls _ _ [] [] _ C_nil (Nat.le_refl _) HME.out).mono ?_; rintro e w14 ⟨v, rfl, hr, hb⟩; have N14 := Aside0.mk (N13.out.trans (hb.mono N13.out.size)); obtain ⟨A14, c14, rfl⟩ := Kd.R_slice hr; clear hr hb _t t18))
      go_ret
      exact ⟨rfl, HX4.out.trans (N14.out.mono HX4.out.size)⟩
end Go.Proofs.Ytdpnhnfhobmopaa.P
