/- Contracts proved by hand: merge.Drop. -/
import Derived.Test.YtdpnhnfhobmopaaH2
namespace Go.Proofs.Ytdpnhnfhobmopaa.P
open Go.RowKit Go.Shelf Go.Proofs.YtdpnhnfhobmopaaW.PrintWords Go.Proofs.YtdpnhnfhobmopaaW.PrintLast Go.Proofs.YtdpnhnfhobmopaaW.PrintMore
attribute [local go_sem] Oper.semAt_some
set_option linter.unusedVariables false
set_option linter.unusedSimpArgs false

/-- In a round's body: what has become of the world since the round began. -/
structure BodyAt (w W w' : World) (L B1 : Nat) (xs : List S24) : Prop where
  below : Below w.heap.size w w'
  ko : KeepsOthers W w'
  sz : L ≤ w'.heap.size
  fix : ∀ k, k < L → k ≠ B1 → w'.heap[k]? = W.heap[k]?
  lt : B1 < L
  ge : w.heap.size ≤ B1
  out : OutB w L B1 xs w'
theorem BodyAt.next {w W w' w2 : World} {L B1 : Nat} {xs : List S24} (h : BodyAt w W w' L B1 xs) (hb : Below w'.heap.size w' w2) : BodyAt w W w2 L B1 xs :=
  ⟨h.below.trans (hb.mono h.below.size), h.ko.trans (keepsOthers_below hb), Nat.le_trans h.sz hb.size, fun k hk hne => (hb.block k (Nat.lt_of_lt_of_le hk h.sz)).trans (h.fix k hk hne), h.lt, h.ge, h.out.below hb⟩
theorem BodyAt.put {w W w' w1 : World} {L B1 : Nat} {xs ys : List S24} (h : BodyAt w W w' L B1 xs) {v v1 : Value} (hb : w'.heap[B1]? = some (.cells #[v] 25 (0, 0))) (hr : Kd.R k24 24 w' w.heap.size (fun k => L ≤ k) v xs)
    (hr1 : Kd.R k24 24 w1 w.heap.size (fun k => L ≤ k) v1 ys) (hb1 : Below w.heap.size w w1) (hg : w'.grownBy w1 v.ownBlock) : BodyAt w W (w1.setCell ⟨B1, 0, none⟩ v1) L B1 ys := by
  have hlt := h.lt
  have hge := h.ge
  have hnr : ∀ k, k < L → some k ≠ v.ownBlock := fun k hk e => by have := hr.1 k e.symm; omega
  refine ⟨hb1.setCell (p := ⟨B1, 0, none⟩) h.ge _, (h.ko.trans (KeepsOthers.of_grownBy hg (fun j o hj ho => ?_))).trans (KeepsOthers.setCell _ _ _), ?_, fun k hk hne => ?_, h.lt, h.ge, OutB.put hb hr h.lt hr1 hg⟩
  · obtain ⟨cells, hc⟩ := Kd.R_typed hr j hj
    rw [hc] at ho
    cases ho
    rfl
  · have := hg.size
    have := h.sz
    simp only [World.size_setCell]
    omega
  · exact (Below.heap_setCell _ _ _ _ (by show k ≠ B1; exact hne)).trans ((hg.block k (Nat.lt_of_lt_of_le hk h.sz) (hnr k hk)).trans (h.fix k hk hne))
/-- Behind an append to 'out' in a round: the variable, the box of the first variable and the round's own box. -/
theorem drop_app {w W wr w5 : World} {L B1 : Nat} {xs ys : List S24} {o : Int} {f0 f2 : ByteArray} {f1 : Int} {f3 : Bool} {Ao A2 : Option Addr} {co n2 c2 : Nat} (h : BodyAt w W wr L B1 xs) (hb : wr.heap[B1]? = some (.cells #[.slice Ao xs.length co] 25 (0, 0))) (hr : Kd.R k24 24 wr w.heap.size (fun k => L ≤ k) (.slice Ao xs.length co) xs)
    (hsq : W.heap[w.heap.size]? = some (.cells #[.int .u64 o] 22 (0, 0))) (hL : w.heap.size < L) (hne : w.heap.size ≠ B1)
    (ho2 : Kd.R k24 24 w5 w.heap.size (fun k => L ≤ k) (.slice A2 n2 c2) ys) (hb2 : Below w.heap.size w w5) (hg2 : ((wr.alloc (.cells #[.string f0, .int .u64 f1, .string f2, .bool f3] 24)).alloc (.cells #[.string f0, .int .u64 f1, .string f2, .bool f3] 24)).grownBy w5 (Value.slice Ao xs.length co).ownBlock) :
    w5.heap[B1]? = some (.cells #[.slice Ao xs.length co] 25 (0, 0)) ∧ (w5.setCell ⟨B1, 0, none⟩ (.slice A2 n2 c2)).cell? ⟨w.heap.size, 0, none⟩ = some (.int .u64 o) ∧ (w5.setCell ⟨B1, 0, none⟩ (.slice A2 n2 c2)).cell? ⟨wr.heap.size, 1, none⟩ = some (.int .u64 f1) := by
  have hlt := h.lt
  have hsz := h.sz
  have hnr : ∀ k, k < L → some k ≠ (Value.slice Ao xs.length co).ownBlock := fun k hk e => by have := hr.1 k e.symm; omega
  have hold : ∀ k, k < L → w5.heap[k]? = wr.heap[k]? := fun k hk => (hg2.block k (by simp only [World.size_alloc]; omega) (hnr k hk)).trans ((Below.heap_alloc _ _ _ (by simp only [World.size_alloc]; omega)).trans (Below.heap_alloc _ _ _ (by omega)))
  refine ⟨(hold B1 hlt).trans hb, ?_, ?_⟩
  · exact (blk_cell1 ((Below.heap_setCell _ _ _ _ (by show w.heap.size ≠ B1; exact hne)).trans ((hold _ hL).trans ((h.fix _ hL hne).trans hsq))) 0 rfl).1
  · have h1 : w5.heap[wr.heap.size]? = some (.cells #[.string f0, .int .u64 f1, .string f2, .bool f3] 24 (0, 0)) :=
      (hg2.block wr.heap.size (by simp only [World.size_alloc]; omega) (fun e => by have := Kd.R_lt hr _ e.symm; omega)).trans ((Below.heap_alloc _ _ _ (by simp only [World.size_alloc]; omega)).trans (alloc_heap_new' wr _))
    exact (blk_cell1 ((Below.heap_setCell _ _ _ _ (by show wr.heap.size ≠ B1; omega)).trans h1) 1 rfl).1
/-- What is left of one key's cells. -/
def dropG (o : Int) (b : Bool) : List S24 → List S24
  | [] => []
  | x :: g => if x.f1 ≤ o then (if (b && x.f3) = true then [] else [x]) else x :: dropG o b g
theorem dropG_len (o : Int) (b : Bool) : ∀ g : List S24, (dropG o b g).length ≤ g.length
  | [] => Nat.le_refl _
  | x :: g => by
    unfold dropG
    have := dropG_len o b g
    split
    · split <;> simp
    · simpa using this
set_option maxHeartbeats 4000000 in
set_option maxRecDepth 100000 in
theorem drop_core (A0 : Option Addr) (c0 : Nat) (l0 : List S24) (o : Int) (b : Bool) (w : World) (hr0 : Kd.C k24 w A0 l0.length l0) (hc0 : l0.length ≤ c0) (hl : l0.length ≤ 2932031007317) (hs : sortedF l0 = true) :
    Calls Try.prog 23 #[.slice A0 l0.length c0, .int .u64 o, .bool b] w fun e w' => ∃ v0_ : Value, e = .returned v0_ ∧ Kd.R k24 24 w' w.heap.size (fun _ => True) v0_ (outAll (dropG o b) l0) ∧ Below w.heap.size w w' := by
  have HR0 := Aside0.mk hr0
  have HS := Aside0.mk (sorted_val l0 (by omega))
  rw [hs] at HS
  obtain ⟨N, hN1, hN2, hN3⟩ := exists_N l0.length l0 (Nat.le_refl _)
  have HN1 := Aside0.mk hN1
  have HN2 := Aside0.mk hN2
  have HN3 := Aside0.mk hN3
  clear hr0 hs hN1 hN2 hN3
  refine (callsIn_wide (n := 9)).1 ?_
  refine callsIn_of_wp_marks Try.func23 rfl trivial ?_ rfl
  simp only [Try.ntmps23, List.size_toArray, List.length_cons, List.length_nil, Nat.reduceAdd, Nat.reduceSub, Array.replicate_succ, Array.replicate_zero, List.push_toArray, List.append_toArray, List.nil_append, List.cons_append]
  gi_wp2_with (first | (refine ⟨trivial, ?_⟩; gi_at_call 14; refine (callsIn_wide.2 (merge_Sorted.calls _ A0 c0 l0 true _ (Kd.C_below HR0.out (below_alloc (below_alloc (Below.refl _ _) _) _)) hc0 HS.out)).mono ?_; rintro e w1 ⟨rfl, hb⟩; have HB1 := Aside0.mk hb; clear hb) | (refine ⟨trivial, ?_⟩; gi_at_call 34; refine (callsIn_wide.2 (keys_calls A0 l0.length c0 _)).mono ?_; rintro e w2 ⟨rfl, rfl⟩))
  have hw1 := HB1.out.size
  simp only [World.size_alloc] at hw1
  have hbx4 : w1.heap[w.heap.size]? = some (.cells #[.int .u64 o] 22 (0, 0)) := (HB1.out.block _ (by simp; omega)).trans ((Below.heap_alloc _ _ _ (by simp)).trans (alloc_heap_new' w _))
  have hbx5 : w1.heap[w.heap.size + 1]? = some (.cells #[.bool b] 4 (0, 0)) := by
    have h := alloc_heap_new' (w.alloc (.cells #[.int .u64 o] 22)) (.cells #[.bool b] 4)
    rw [World.size_alloc] at h
    exact (HB1.out.block _ (by simp)).trans h
  have hbl : Below w.heap.size w w1 := (below_alloc (below_alloc (Below.refl _ _) _) _).trans (HB1.out.mono (by simp; omega))
  obtain ⟨wl, hwl⟩ : ∃ wl, ((w1.alloc (.cells #[.slice none 0 0] 25)).alloc (.cells #[.slice A0 l0.length c0] 25)) = wl := ⟨_, rfl⟩
  have hL : wl.heap.size = w1.heap.size + 2 := by rw [← hwl]; simp
  have hs4 : wl.heap[w.heap.size]? = some (.cells #[.int .u64 o] 22 (0, 0)) := by
    rw [← hwl]; exact (Below.heap_alloc _ _ _ (by simp; omega)).trans ((Below.heap_alloc _ _ _ (by omega)).trans hbx4)
  have hs5 : wl.heap[w.heap.size + 1]? = some (.cells #[.bool b] 4 (0, 0)) := by
    rw [← hwl]; exact (Below.heap_alloc _ _ _ (by simp; omega)).trans ((Below.heap_alloc _ _ _ (by omega)).trans hbx5)
  have hb1 : wl.heap[w1.heap.size]? = some (.cells #[.slice none 0 0] 25 (0, 0)) := by
    rw [← hwl]; exact (Below.heap_alloc _ _ _ (by simp)).trans (alloc_heap_new' w1 _)
  have hb2 : wl.heap[w1.heap.size + 1]? = some (.cells #[.slice A0 l0.length c0] 25 (0, 0)) := by
    rw [← hwl]
    have h := alloc_heap_new' (w1.alloc (.cells #[.slice none 0 0] 25)) (.cells #[.slice A0 l0.length c0] 25)
    rw [World.size_alloc] at h
    exact h
  have hbw : Below w.heap.size w wl := by rw [← hwl]; exact below_alloc (below_alloc hbl _) _
  have hS : OwnFrom wl.heap.size (fun (t : Nat) (W : World) => (W.heap[w.heap.size]? = some (.cells #[.int .u64 o] 22 (0, 0)) ∧ W.heap[w.heap.size + 1]? = some (.cells #[.bool b] 4 (0, 0))) ∧ OutB w wl.heap.size w1.heap.size (outTo (dropG o b) l0 t) W) :=
    OwnFrom.and (OwnFrom.and (fun s X Y row hx hg hr => (hg.block _ (Array.getElem?_eq_some_iff.1 hx).1 (fun e => by have := (hr _ e.symm).1; omega)).trans hx) (fun s X Y row hx hg hr => (hg.block _ (Array.getElem?_eq_some_iff.1 hx).1 (fun e => by have := (hr _ e.symm).1; omega)).trans hx)) (ownFrom_outB w wl.heap.size w1.heap.size _)
  rw [hwl]
  have HS4 := Aside0.mk hs4
  have HS5 := Aside0.mk hs5
  have HX1 := Aside0.mk hb1
  have HX2 := Aside0.mk hb2
  have HBW := Aside0.mk hbw
  have HOF := Aside0.mk hS
  clear hs4 hs5 hb1 hb2 hbw hS hwl hbx4 hbx5 hbl
  refine range_keys 9 (by omega) w A0 c0 l0 HR0.out hc0 (w1.heap.size + 1) (by omega) (by omega) rfl rfl N HN2.out HN3.out
    (fun t W => (W.heap[w.heap.size]? = some (.cells #[.int .u64 o] 22 (0, 0)) ∧ W.heap[w.heap.size + 1]? = some (.cells #[.bool b] 4 (0, 0))) ∧ OutB w wl.heap.size w1.heap.size (outTo (dropG o b) l0 t) W)
    (fun t W => (W.heap[w.heap.size]? = some (.cells #[.int .u64 o] 22 (0, 0)) ∧ W.heap[w.heap.size + 1]? = some (.cells #[.bool b] 4 (0, 0))) ∧ OutB w wl.heap.size w1.heap.size (outTo (dropG o b) l0 (t + 1)) W)
    HOF.out (fun t => HOF.out (t + 1)) ?nx ?dr ?h0 HBW.out HX2.out
    (fun t Ag => { tmps := #[Value.slice A0 l0.length c0, Value.int IntKind.u64 o, Value.bool b, undef, Value.pointer (some { block := w.heap.size, off := 0 }), Value.pointer (some { block := w.heap.size + 1, off := 0 }), Value.slice none 0 0, Value.pointer (some { block := w1.heap.size, off := 0 }), Value.slice Ag (grp l0 t).length (grp l0 t).length, undef, undef, Value.slice A0 l0.length c0, Value.bool true, Value.bool false, Value.slice A0 l0.length c0, Value.func (Fn.func 44) #[] #[Value.pointer (some { block := w1.heap.size + 1, off := 0 })], Value.slice Ag (grp l0 t).length (grp l0 t).length, undef, undef, undef, undef, undef, undef, undef, undef, undef, undef, undef, undef, undef, undef, undef, undef, undef, undef, undef, undef, undef, undef, undef, undef, undef, undef, undef], defers := [] }) ?assign ?body ?done
  case nx =>
    rintro t W m v ⟨⟨h1, h3⟩, h2⟩ _ _
    exact ⟨⟨(Below.heap_setCell (W.drewN m) _ _ _ (by show w.heap.size ≠ w1.heap.size + 1; omega)).trans h1, (Below.heap_setCell (W.drewN m) _ _ _ (by show w.heap.size + 1 ≠ w1.heap.size + 1; omega)).trans h3⟩, OutB.set (h2.below (pw_below_drewN (Below.refl _ _) m)) (by omega) (by omega) v⟩
  case dr =>
    rintro t W m ⟨h1, h2⟩
    exact ⟨h1, h2.below (pw_below_drewN (Below.refl _ _) m)⟩
  case h0 => exact ⟨⟨HS4.out, HS5.out⟩, _, HX1.out, Kd.R_nil _ _ _ _ _⟩
  case assign =>
    intro l t Ag W K hK
    gi_wp2
    exact hK
  case body =>
    rintro l t Ag W ht hCg hbW hszW ⟨⟨hsq4, hsq5⟩, ho⟩
    obtain ⟨g, hg⟩ : ∃ g, grp l0 t = g := ⟨_, rfl⟩
    have HG := Aside0.mk hg
    have hol := outTo_len (dropG_len o b) l0 t
    have hgl : (restAt l0 t).length ≤ l0.length := restAt_length l0 t
    have hgl2 := runLen_le (restAt l0 t)
    have hgl3 := grp_length l0 t
    rw [hg] at hCg hgl3 ⊢
    have HCG := Aside0.mk hCg
    have hgn : g.length ≤ 2932031007317 := by omega
    have hroom : (outTo (dropG o b) l0 t).length + g.length ≤ 2932031007317 := by omega
    obtain ⟨pre, hpre⟩ : ∃ pre, outTo (dropG o b) l0 t = pre := ⟨_, rfl⟩
    have HPRE := Aside0.mk hpre
    rw [hpre] at ho hroom
    have HSQ4 := Aside0.mk hsq4
    have HSQ5 := Aside0.mk hsq5
    have hbody : BodyAt w W W wl.heap.size w1.heap.size (pre ++ []) := ⟨hbW, KeepsOthers.refl _, hszW, fun _ _ _ => rfl, by omega, by omega, by rw [List.append_nil]; exact ho⟩
    have HBD := Aside0.mk hbody
    have HL := Aside0.mk hL
    have HPOST : ∀ w', BodyAt w W w' wl.heap.size w1.heap.size (pre ++ dropG o b g) → KeepsOthers W w' ∧ w'.heap[w1.heap.size + 1]? = W.heap[w1.heap.size + 1]? ∧ Below w.heap.size w w' ∧ (w'.heap[w.heap.size]? = some (.cells #[.int .u64 o] 22 (0, 0)) ∧ w'.heap[w.heap.size + 1]? = some (.cells #[.bool b] 4 (0, 0))) ∧ OutB w wl.heap.size w1.heap.size (outTo (dropG o b) l0 (t + 1)) w' := by
      intro w' h
      refine ⟨h.ko, h.fix _ (by omega) (by omega), h.below, ⟨(h.fix _ (by omega) (by omega)).trans hsq4, (h.fix _ (by omega) (by omega)).trans hsq5⟩, ?_⟩
      rw [outTo_succ, HPRE.out, HG.out]
      exact h.out
    have HP := Aside0.mk HPOST
    clear hg hCg hbW hsq4 hsq5 hgl3 hol hgl hgl2 hpre ho hbody hL HPOST
    gi_wp2
    gi_loopg [19] g.length (fun kq v19 w' => ∃ (i : Nat) (done : List S24), v19 = .int .i64 i ∧ i ≤ g.length ∧ done.length ≤ i ∧ Aside0 (kq = g.length - i) ∧ Aside0 (done ++ dropG o b (g.drop i) = dropG o b g) ∧ Aside0 (BodyAt w W w' wl.heap.size w1.heap.size (pre ++ done)))
    case atStart => exact ⟨0, [], rfl, Nat.zero_le _, Nat.zero_le _, ⟨rfl⟩, ⟨rfl⟩, HBD⟩
    case round =>
      obtain ⟨i, done, rfl, hi, hdl, HK, HD, HBA⟩ := hrel
      by_cases hlt : i < g.length
      · obtain ⟨k1, rfl⟩ : ∃ k1, gk = k1 + 1 := ⟨gk - 1, by have := HK.out; omega⟩
        have HK1 := Aside0.mk (show k1 = g.length - (i + 1) by have := HK.out; omega)
        obtain ⟨ad, ea, x0, x1, x2, x3⟩ := at_T24 (Kd.C_below HCG.out HBA.out.below) (i : Int) (Int.natCast_nonneg _) (by omega)
        subst ea
        rw [Int.toNat_natCast] at x0 x1 x2 x3
        obtain ⟨x, hx⟩ : ∃ x, rd_T24 g (i : Int) = x := ⟨_, rfl⟩
        rw [hx] at x0 x1 x2 x3
        have hd : g.drop i = x :: g.drop (i + 1) := by rw [← hx, rd24_getElem g i hlt]; exact List.drop_eq_getElem_cons hlt
        have HDR := Aside0.mk hd
        clear hd hx
        have hbxs : wr.heap[w.heap.size]? = some (.cells #[.int .u64 o] 22 (0, 0)) := (HBA.out.fix _ (by have := HL.out; omega) (by omega)).trans HSQ4.out
        have hbxb : wr.heap[w.heap.size + 1]? = some (.cells #[.bool b] 4 (0, 0)) := (HBA.out.fix _ (by have := HL.out; omega) (by omega)).trans HSQ5.out
        have hlen : (pre ++ done).length + 1 ≤ 2932031007317 := by rw [List.length_append]; omega
        obtain ⟨xs, hxs⟩ : ∃ xs, pre ++ done = xs := ⟨_, rfl⟩
        rw [hxs] at HBA hlen
        have HXS := Aside0.mk hxs
        clear hxs
        obtain ⟨v, hbv, hRv⟩ := HBA.out.out
        obtain ⟨Ao, co, rfl⟩ := Kd.R_slice hRv
        obtain ⟨f0, f1, f2, f3⟩ := x
        dsimp only at x0 x1 x2 x3
        have e4 : (wr.alloc (.cells #[.string f0, .int .u64 f1, .string f2, .bool f3] 24)).cell? ⟨w.heap.size, 0, none⟩ = some (.int .u64 o) := below_cell (below_alloc (Below.refl _ _) _) (blk_cell1 hbxs 0 rfl).1
        have e5 : (wr.alloc (.cells #[.string f0, .int .u64 f1, .string f2, .bool f3] 24)).cell? ⟨w.heap.size + 1, 0, none⟩ = some (.bool b) := below_cell (below_alloc (Below.refl _ _) _) (blk_cell1 hbxb 0 rfl).1
        have hbv2 : (wr.alloc (.cells #[.string f0, .int .u64 f1, .string f2, .bool f3] 24)).heap[w1.heap.size]? = some (.cells #[.slice Ao xs.length co] 25 (0, 0)) := (Below.heap_alloc _ _ _ (Array.getElem?_eq_some_iff.1 hbv).1).trans hbv
        have hbv3 : ((wr.alloc (.cells #[.string f0, .int .u64 f1, .string f2, .bool f3] 24)).alloc (.cells #[.string f0, .int .u64 f1, .string f2, .bool f3] 24)).heap[w1.heap.size]? = some (.cells #[.slice Ao xs.length co] 25 (0, 0)) := (Below.heap_alloc _ _ _ (Array.getElem?_eq_some_iff.1 hbv2).1).trans hbv2
        have e7 := (blk_cell1 hbv2 0 rfl).1
        have hnew : ReadsRow cellP 4 ((wr.alloc (.cells #[.string f0, .int .u64 f1, .string f2, .bool f3] 24)).alloc (.cells #[.string f0, .int .u64 f1, .string f2, .bool f3] 24)) (some ⟨wr.heap.size + 1, 0, none⟩) 1 [⟨f0, f1, f2, f3⟩] := by
          have := new_cell (wr.alloc (.cells #[.string f0, .int .u64 f1, .string f2, .bool f3] 24)) ⟨f0, f1, f2, f3⟩
          rwa [World.size_alloc] at this
        have HNEW := Aside0.mk hnew
        have HBV := Aside0.mk hbv
        have HBV3 := Aside0.mk hbv3
        have HRV := Aside0.mk hRv
        have hwsz : wl.heap.size ≤ wr.heap.size := HBA.out.sz
        have HBA1 := Aside0.mk (HBA.out.next (below_alloc (Below.refl _ _) (.cells #[.string f0, .int .u64 f1, .string f2, .bool f3] 24)))
        have HBA2 := Aside0.mk (HBA1.out.next (below_alloc (Below.refl _ _) (.cells #[.string f0, .int .u64 f1, .string f2, .bool f3] 24)))
        clear hbxs hbxb hbv hbv2 hbv3 hRv hnew
        by_cases hq : f1 ≤ o
        · have hq1 : decide (f1 ≤ o) = true := decide_eq_true hq
          by_cases hbf : b = true ∧ f3 = true
          · obtain ⟨rfl, rfl⟩ := hbf
            gi_wp2
            refine HP.out _ ?_
            rw [HDR.out] at HD
            have e : dropG o true (⟨f0, f1, f2, true⟩ :: g.drop (i + 1)) = [] := by unfold dropG; rw [if_pos hq]; rfl
            rw [e, List.append_nil] at HD
            rw [← HD.out, HXS.out]
            exact HBA1.out
          · have hbf1 : b = false ∨ (b = true ∧ f3 = false) := by
              cases b
              · exact .inl rfl
              · cases f3
                · exact .inr ⟨rfl, rfl⟩
                · exact absurd ⟨rfl, rfl⟩ hbf
            have hHE : dropG o b g = done ++ [⟨f0, f1, f2, f3⟩] := by
              rw [← HD.out, HDR.out]
              congr 1
              unfold dropG
              rw [if_pos hq, if_neg (by rcases hbf1 with rfl | ⟨rfl, rfl⟩ <;> simp)]
            have HHE := Aside0.mk hHE
            clear hbf hHE
            rcases hbf1 with rfl | ⟨rfl, rfl⟩
            · gi_wp2_with (gi_at_builtin; refine append_rows_in k24 (Rr := cellP) (w0 := w) w.heap.size rfl (.tmp 34) (.tmp 36) 25 24 (.agg #[(.string ⟨#[]⟩), (.int .u64 0), (.string ⟨#[]⟩), (.bool false)]) 48 rfl Try.underlying25 info24 rfl (by decide) (by decide) (.slice Ao xs.length co) xs [⟨f0, f1, f2, f3⟩] (some ⟨wr.heap.size + 1, 0, none⟩) 1 1 (fun k => wl.heap.size ≤ k) (fun _ => False) rfl rfl (Kd.R_alloc (Kd.R_alloc HRV.out _) _) HNEW.out (fun x_ cs_ h_ => by rw [h_]; exact k24_mkM _ _ _ x_) (fun _ h_ => h_.elim) (fun k_ hk_ => by rw [World.size_alloc, World.size_alloc] at hk_; omega) HBA2.out.below (by have := HBA2.out.below.size; exact this) (by omega) ?_; intro v2 w5 ho2 hb2 hg2 hat2; obtain ⟨ys, hys⟩ : ∃ ys, xs ++ [(⟨f0, f1, f2, f3⟩ : S24)] = ys := ⟨_, rfl⟩; rw [hys] at ho2; have HYS := Aside0.mk hys; obtain ⟨A2, c2, rfl⟩ := Kd.R_slice ho2; obtain ⟨hbx5, e45, e15⟩ := drop_app HBA.out HBV.out HRV.out HSQ4.out (by have := HL.out; omega) (by omega) ho2 hb2 hg2; have HPUT := Aside0.mk (HBA2.out.put HBV3.out (Kd.R_alloc (Kd.R_alloc HRV.out _) _) ho2 hb2 hg2); have hcl5 := (blk_cell1 hbx5 0 rfl).1; have hfr5 := (blk_cell1 hbx5 0 rfl).2; clear hys ho2 hb2 hg2 hat2 hbx5 e4 e5 e7)
              refine HP.out _ ?_
              rw [HHE.out, ← List.append_assoc, HXS.out, HYS.out]
              exact HPUT.out
            · gi_wp2_with (gi_at_builtin; refine append_rows_in k24 (Rr := cellP) (w0 := w) w.heap.size rfl (.tmp 34) (.tmp 36) 25 24 (.agg #[(.string ⟨#[]⟩), (.int .u64 0), (.string ⟨#[]⟩), (.bool false)]) 48 rfl Try.underlying25 info24 rfl (by decide) (by decide) (.slice Ao xs.length co) xs [⟨f0, f1, f2, false⟩] (some ⟨wr.heap.size + 1, 0, none⟩) 1 1 (fun k => wl.heap.size ≤ k) (fun _ => False) rfl rfl (Kd.R_alloc (Kd.R_alloc HRV.out _) _) HNEW.out (fun x_ cs_ h_ => by rw [h_]; exact k24_mkM _ _ _ x_) (fun _ h_ => h_.elim) (fun k_ hk_ => by rw [World.size_alloc, World.size_alloc] at hk_; omega) HBA2.out.below (by have := HBA2.out.below.size; exact this) (by omega) ?_; intro v2 w5 ho2 hb2 hg2 hat2; obtain ⟨ys, hys⟩ : ∃ ys, xs ++ [(⟨f0, f1, f2, false⟩ : S24)] = ys := ⟨_, rfl⟩; rw [hys] at ho2; have HYS := Aside0.mk hys; obtain ⟨A2, c2, rfl⟩ := Kd.R_slice ho2; obtain ⟨hbx5, e45, e15⟩ := drop_app HBA.out HBV.out HRV.out HSQ4.out (by have := HL.out; omega) (by omega) ho2 hb2 hg2; have HPUT := Aside0.mk (HBA2.out.put HBV3.out (Kd.R_alloc (Kd.R_alloc HRV.out _) _) ho2 hb2 hg2); have hcl5 := (blk_cell1 hbx5 0 rfl).1; have hfr5 := (blk_cell1 hbx5 0 rfl).2; clear hys ho2 hb2 hg2 hat2 hbx5 e4 e5 e7)
              refine HP.out _ ?_
              rw [HHE.out, ← List.append_assoc, HXS.out, HYS.out]
              exact HPUT.out
        · have hq1 : decide (f1 ≤ o) = false := decide_eq_false hq
          gi_wp2_with (gi_at_builtin; refine append_rows_in k24 (Rr := cellP) (w0 := w) w.heap.size rfl (.tmp 34) (.tmp 36) 25 24 (.agg #[(.string ⟨#[]⟩), (.int .u64 0), (.string ⟨#[]⟩), (.bool false)]) 48 rfl Try.underlying25 info24 rfl (by decide) (by decide) (.slice Ao xs.length co) xs [⟨f0, f1, f2, f3⟩] (some ⟨wr.heap.size + 1, 0, none⟩) 1 1 (fun k => wl.heap.size ≤ k) (fun _ => False) rfl rfl (Kd.R_alloc (Kd.R_alloc HRV.out _) _) HNEW.out (fun x_ cs_ h_ => by rw [h_]; exact k24_mkM _ _ _ x_) (fun _ h_ => h_.elim) (fun k_ hk_ => by rw [World.size_alloc, World.size_alloc] at hk_; omega) HBA2.out.below (by have := HBA2.out.below.size; exact this) (by omega) ?_; intro v2 w5 ho2 hb2 hg2 hat2; obtain ⟨ys, hys⟩ : ∃ ys, xs ++ [(⟨f0, f1, f2, f3⟩ : S24)] = ys := ⟨_, rfl⟩; rw [hys] at ho2; have HYS := Aside0.mk hys; obtain ⟨A2, c2, rfl⟩ := Kd.R_slice ho2; obtain ⟨hbx5, e45, e15⟩ := drop_app HBA.out HBV.out HRV.out HSQ4.out (by have := HL.out; omega) (by omega) ho2 hb2 hg2; have HPUT := Aside0.mk (HBA2.out.put HBV3.out (Kd.R_alloc (Kd.R_alloc HRV.out _) _) ho2 hb2 hg2); have hcl5 := (blk_cell1 hbx5 0 rfl).1; have hfr5 := (blk_cell1 hbx5 0 rfl).2; clear hys ho2 hb2 hg2 hat2 hbx5 e4 e5 e7)
          gi_roundg k1
          case measure => omega
          case rel =>
            refine ⟨i + 1, done ++ [⟨f0, f1, f2, f3⟩], by first | rfl | (congr 1; omega) | (simp; done), by omega, by rw [List.length_append]; simp; omega, HK1, ⟨?_⟩, ⟨?_⟩⟩
            · rw [← HD.out, HDR.out]
              conv => rhs; unfold dropG
              rw [if_neg (show ¬ f1 ≤ o by omega)]
              simp
            · rw [← List.append_assoc, HXS.out, HYS.out]
              exact HPUT.out
      · obtain rfl : i = g.length := by omega
        gi_wp2
        refine HP.out _ ?_
        rw [← HD.out, List.drop_eq_nil_of_le (Nat.le_refl _)]
        unfold dropG
        rw [List.append_nil]
        exact HBA.out
  case done =>
    rintro D W hD hbW ⟨hsq, v, hbx, hR⟩ hK
    have hbc := (blk_cell1 hbx 0 rfl).1
    have HBW2 := Aside0.mk hbW
    have HKD := Aside0.mk hK
    have HRV := Aside0.mk hR
    clear hsq hbx hR hbW hK
    gi_wp2
    refine leavesMarks [D] W (by simp) (fun D' hD' => by obtain rfl := List.mem_singleton.1 hD'; exact HKD.out) (fun W' hs => ?_)
    refine ⟨_, results_tmp rfl _ _ _, _, rfl, ?_, HBW2.out.trans (hs.below (fun D' hD' => by obtain rfl := List.mem_singleton.1 hD'; have := HBW.out.size; omega))⟩
    rw [outAll_eq (by unfold dropG; rfl) l0 N HN1.out HN2.out]
    refine Kd.R_mono (Kd.R_move (Kd.R_bound HRV.out) (fun k hk => hs.block k (fun hm => ?_))) (fun _ _ => trivial)
    obtain rfl := List.mem_singleton.1 hm
    obtain ⟨_, _, _, qq, _, cells, hc⟩ := hk
    rw [HKD.out] at hc
    cases hc
def merge_Drop.f (l0 : List S24) (o : Int) (b : Bool) : Option (List S24) := if l0.length ≤ 2932031007317 then (if sortedF l0 = true then some (outAll (dropG o b) l0) else some []) else none
set_option maxHeartbeats 4000000 in
set_option maxRecDepth 100000 in
theorem merge_Drop.calls (A0 : Option Addr) (c0 : Nat) (l0 : List S24) (o : Int) (b : Bool) (r : List S24) (w : World) (hr0 : Kd.C k24 w A0 l0.length l0) (hc0 : l0.length ≤ c0) (h : merge_Drop.f l0 o b = some r) :
    Calls Try.prog 23 #[.slice A0 l0.length c0, .int .u64 o, .bool b] w fun e w' => ∃ v0_ : Value, e = .returned v0_ ∧ Kd.R k24 24 w' w.heap.size (fun _ => True) v0_ r ∧ Below w.heap.size w w' := by
  unfold merge_Drop.f at h
  by_cases hl : l0.length ≤ 2932031007317
  rotate_left
  · rw [if_neg hl] at h; cases h
  rw [if_pos hl] at h
  by_cases hs : sortedF l0 = true
  · rw [if_pos hs] at h
    obtain rfl := Option.some.inj h
    exact drop_core A0 c0 l0 o b w hr0 hc0 hl hs
  · rw [if_neg hs] at h
    obtain rfl := Option.some.inj h
    have HR0 := Aside0.mk hr0
    have HS := Aside0.mk (sorted_val l0 (by omega))
    rw [Bool.eq_false_iff.mpr hs] at HS
    clear hr0 hs h
    go_enter Try.func23, Try.ntmps23
    go_wp2_with (go_at_call 14; refine (merge_Sorted.calls _ A0 c0 l0 false _ (Kd.C_below HR0.out (below_alloc (below_alloc (Below.refl _ _) _) _)) hc0 HS.out).mono ?_; rintro e w1 ⟨rfl, hb⟩; have HB1 := Aside0.mk hb; clear hb)
    go_ret
    exact ⟨_, rfl, Kd.R_nil _ _ _ _ _, (below_alloc (below_alloc (Below.refl _ _) _) _).trans (HB1.out.mono (by simp; omega))⟩
end Go.Proofs.Ytdpnhnfhobmopaa.P
