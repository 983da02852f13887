/- Contracts proved by hand: merge.Cells, awake. -/
import Derived.Test.YtdpnhnfhobmopaaH4
namespace Go.Proofs.Ytdpnhnfhobmopaa.P
open Go.RowKit Go.Shelf Go.Proofs.YtdpnhnfhobmopaaW.PrintWords Go.Proofs.YtdpnhnfhobmopaaW.PrintLast Go.Proofs.YtdpnhnfhobmopaaW.PrintMore
set_option linter.unusedVariables false
set_option linter.unusedSimpArgs false

theorem cell_add0 (W : World) (g k : Nat) : W.cell? ((⟨g, 0, none⟩ : Addr).add k) = W.cell? ⟨g, k, none⟩ := by
  unfold Addr.add
  by_cases h : k = 0
  · subst h; simp
  · simp [h]
def c4 (x : S24) : List Value := [.string x.f0, .int .u64 x.f1, .string x.f2, .bool x.f3]
theorem flat_get {α : Type} (f : α → List Value) (n : Nat) (hf : ∀ x, (f x).length = n) : ∀ (xs : List α) (j : Nat) (p : α) (i : Nat) (u : Value), xs[j]? = some p → (f p)[i]? = some u → (xs.flatMap f)[j * n + i]? = some u
  | [], j, p, i, u, h, _ => by simp at h
  | x :: xs, 0, p, i, u, h, hu => by
    have : x = p := by simpa using h
    subst this
    rw [List.flatMap_cons, Nat.zero_mul, Nat.zero_add, List.getElem?_append_left (List.getElem?_eq_some_iff.1 hu).1]
    exact hu
  | x :: xs, j + 1, p, i, u, h, hu => by
    have ih := flat_get f n hf xs j p i u (by simpa using h) hu
    rw [List.flatMap_cons, List.getElem?_append_right (by rw [hf]; rw [Nat.succ_mul]; omega), hf, Nat.succ_mul, show j * n + n + i - n = j * n + i by omega]
    exact ih
/-- A row that lies written out. -/
theorem C_lit {W : World} {g t : Nat} {cs : Array Value} (xs : List S24) (h : W.heap[g]? = some (.cells cs t (0, 0))) (hc : cs = (xs.flatMap c4).toArray) (hl : xs.length ≤ 9223372036854775807) : Kd.C k24 W (some ⟨g, 0, none⟩) xs.length xs := by
  refine ⟨rfl, hl, fun _ => ⟨_, rfl, fun j p hj => ⟨c4 p, rfl, k24_mk W p, fun i u hu => ?_⟩⟩⟩
  rw [cell_add0]
  refine (blk_cell1 h _ ?_).1
  rw [hc]
  have := flat_get c4 4 (fun _ => rfl) xs j p i u hj hu
  rw [List.getElem?_toArray]
  exact this
/-- A row of rows that lies written out: two of them. -/
theorem C_lit2 {W : World} {g t : Nat} {A1 A2 : Option Addr} {c1 c2 : Nat} (x1 x2 : List S24) (h : W.heap[g]? = some (.cells #[.slice A1 x1.length c1, .slice A2 x2.length c2] t (0, 0))) (h1 : Kd.C k24 W A1 x1.length x1) (l1 : x1.length ≤ c1) (h2 : Kd.C k24 W A2 x2.length x2) (l2 : x2.length ≤ c2) :
    Kd.C (Kd.slice 24 k24) W (some ⟨g, 0, none⟩) 2 [x1, x2] := by
  refine ⟨rfl, by decide, fun _ => ⟨_, rfl, fun j p hj => ?_⟩⟩
  match j, hj with
  | 0, hj =>
    obtain rfl : x1 = p := by simpa using hj
    refine ⟨[.slice A1 x1.length c1], rfl, ⟨A1, c1, rfl, l1, h1⟩, fun i u hu => ?_⟩
    match i, hu with
    | 0, hu => rw [cell_add0]; exact (blk_cell1 h 0 (by simpa using hu)).1
    | i + 1, hu => simp at hu
  | 1, hj =>
    obtain rfl : x2 = p := by simpa using hj
    refine ⟨[.slice A2 x2.length c2], rfl, ⟨A2, c2, rfl, l2, h2⟩, fun i u hu => ?_⟩
    match i, hu with
    | 0, hu => rw [cell_add0]; exact (blk_cell1 h 1 (by simpa using hu)).1
    | i + 1, hu => simp at hu
  | j + 2, hj => simp at hj
theorem C_lit1 {W : World} {g t : Nat} {A1 : Option Addr} {c1 : Nat} (x1 : List S24) (h : W.heap[g]? = some (.cells #[.slice A1 x1.length c1] t (0, 0))) (h1 : Kd.C k24 W A1 x1.length x1) (l1 : x1.length ≤ c1) :
    Kd.C (Kd.slice 24 k24) W (some ⟨g, 0, none⟩) 1 [x1] := by
  refine ⟨rfl, by decide, fun _ => ⟨_, rfl, fun j p hj => ?_⟩⟩
  match j, hj with
  | 0, hj =>
    obtain rfl : x1 = p := by simpa using hj
    refine ⟨[.slice A1 x1.length c1], rfl, ⟨A1, c1, rfl, l1, h1⟩, fun i u hu => ?_⟩
    match i, hu with
    | 0, hu => rw [cell_add0]; exact (blk_cell1 h 0 (by simpa using hu)).1
    | i + 1, hu => simp at hu
  | j + 1, hj => simp at hj
/-- What merge.Cells leaves: a function over a box that holds the merged list. -/
structure CellsAt (w w' : World) (B : Nat) (r : List S24) : Prop where
  below : Below w.heap.size w w'
  ge : w.heap.size ≤ B
  box : ∃ v, w'.heap[B]? = some (.cells #[v] 25 (0, 0)) ∧ Kd.R k24 24 w' w.heap.size (fun k => k ≠ B) v r
set_option maxHeartbeats 4000000 in
set_option maxRecDepth 100000 in
theorem merge_Cells.calls (A0 : Option Addr) (c0 : Nat) (l0 : List (List S24)) (r : List S24) (w : World) (hr0 : Kd.C (Kd.slice 24 k24) w A0 l0.length l0) (hc0 : l0.length ≤ c0) (h : merge_Merge.f l0 = some r) :
    Calls Try.prog 20 #[.slice A0 l0.length c0] w fun e w' => ∃ B, e = .returned (.func (.func 43) #[] #[.pointer (some ⟨B, 0, none⟩)]) ∧ CellsAt w w' B r := by
  have HR0 := Aside0.mk hr0
  have H := Aside0.mk h
  clear hr0 h
  go_enter Try.func20, Try.ntmps20
  go_wp2_with (first | (go_at_call 17; refine (merge_Merge.calls A0 c0 l0 r _ HR0.out hc0 H.out).mono ?_; rintro e w1 ⟨v, rfl, hr, hb⟩; have HR1 := Aside0.mk hr; have HB1 := Aside0.mk hb; obtain ⟨A1, c1, rfl⟩ := Kd.R_slice hr; clear hr hb) | go_in)
  go_ret
  refine ⟨_, rfl, below_alloc HB1.out _, HB1.out.size, _, alloc_heap_new' w1 _, ?_⟩
  exact Kd.R_mono (Kd.R_bound (Kd.R_alloc HR1.out _)) (fun k hk => by
    obtain ⟨_, _, hlt, q, hq, cells, hc⟩ := hk
    intro e
    rw [e, alloc_heap_new'] at hc
    have hq' : q = 24 := by simpa using (show q ∈ [24] from hq)
    subst hq'
    cases hc)
def ka : ByteArray := ⟨#[97]⟩
def kb : ByteArray := ⟨#[98]⟩
def w1L : List S24 := [⟨⟨#[97]⟩, 3, ⟨#[]⟩, false⟩, ⟨⟨#[97]⟩, 1, ⟨#[]⟩, false⟩]
def w2L : List S24 := [⟨⟨#[97]⟩, 2, ⟨#[]⟩, false⟩, ⟨⟨#[98]⟩, 1, ⟨#[]⟩, false⟩]
def wL : List S24 := [⟨⟨#[97]⟩, 3, ⟨#[]⟩, false⟩, ⟨⟨#[97]⟩, 2, ⟨#[]⟩, false⟩, ⟨⟨#[97]⟩, 1, ⟨#[]⟩, false⟩, ⟨⟨#[98]⟩, 1, ⟨#[]⟩, false⟩]
theorem aw_merge : merge_Merge.f [w1L, w2L] = some wL := by kernel_rfl
theorem aw_merge1 : merge_Merge.f [wL] = some wL := by kernel_rfl
theorem aw_same : atriumlaw10_same.f 6 wL wL = some true := by kernel_rfl
theorem aw_sorted : merge_Sorted.f 9 wL = some true := by kernel_rfl
theorem aw_vis : ∃ r, merge_Visible.f wL 2 = some r ∧ r.length = 2 := by
  refine ⟨[⟨⟨#[97]⟩, 2, ⟨#[]⟩, false⟩, ⟨⟨#[98]⟩, 1, ⟨#[]⟩, false⟩], by kernel_rfl, rfl⟩
theorem aw_drop : ∃ r, merge_Drop.f wL 2 false = some r ∧ r.length = 3 := by
  refine ⟨[⟨⟨#[97]⟩, 3, ⟨#[]⟩, false⟩, ⟨⟨#[97]⟩, 2, ⟨#[]⟩, false⟩, ⟨⟨#[98]⟩, 1, ⟨#[]⟩, false⟩], by kernel_rfl, rfl⟩
theorem aw_cut : ∃ r, merge_Cut.f wL 1 = some r ∧ r.length = 2 := by
  refine ⟨[[⟨⟨#[97]⟩, 3, ⟨#[]⟩, false⟩, ⟨⟨#[97]⟩, 2, ⟨#[]⟩, false⟩, ⟨⟨#[97]⟩, 1, ⟨#[]⟩, false⟩], [⟨⟨#[98]⟩, 1, ⟨#[]⟩, false⟩]], by kernel_rfl, rfl⟩
def atriumlaw10_awake.f : Option Bool := some true
theorem aw_rows (w : World) : Kd.C (Kd.slice 24 k24) (((w.alloc (.cells #[.string ⟨#[97]⟩, .int .u64 3, .string ⟨#[]⟩, .bool false, .string ⟨#[97]⟩, .int .u64 1, .string ⟨#[]⟩, .bool false] 24)).alloc (.cells #[.string ⟨#[97]⟩, .int .u64 2, .string ⟨#[]⟩, .bool false, .string ⟨#[98]⟩, .int .u64 1, .string ⟨#[]⟩, .bool false] 24)).alloc (.cells #[.slice (some ⟨w.heap.size, 0, none⟩) 2 2, .slice (some ⟨w.heap.size + 1, 0, none⟩) 2 2] 25)) (some ⟨w.heap.size + 1 + 1, 0, none⟩) 2 [w1L, w2L] := by
  have h1 : (w.alloc (.cells #[.string ⟨#[97]⟩, .int .u64 3, .string ⟨#[]⟩, .bool false, .string ⟨#[97]⟩, .int .u64 1, .string ⟨#[]⟩, .bool false] 24)).heap[w.heap.size]? = some (.cells #[.string ⟨#[97]⟩, .int .u64 3, .string ⟨#[]⟩, .bool false, .string ⟨#[97]⟩, .int .u64 1, .string ⟨#[]⟩, .bool false] 24 (0, 0)) := alloc_heap_new' w _
  have h2 : ((w.alloc (.cells #[.string ⟨#[97]⟩, .int .u64 3, .string ⟨#[]⟩, .bool false, .string ⟨#[97]⟩, .int .u64 1, .string ⟨#[]⟩, .bool false] 24)).alloc (.cells #[.string ⟨#[97]⟩, .int .u64 2, .string ⟨#[]⟩, .bool false, .string ⟨#[98]⟩, .int .u64 1, .string ⟨#[]⟩, .bool false] 24)).heap[w.heap.size + 1]? = some (.cells #[.string ⟨#[97]⟩, .int .u64 2, .string ⟨#[]⟩, .bool false, .string ⟨#[98]⟩, .int .u64 1, .string ⟨#[]⟩, .bool false] 24 (0, 0)) := by
    have h := alloc_heap_new' (w.alloc (.cells #[.string ⟨#[97]⟩, .int .u64 3, .string ⟨#[]⟩, .bool false, .string ⟨#[97]⟩, .int .u64 1, .string ⟨#[]⟩, .bool false] 24)) (.cells #[.string ⟨#[97]⟩, .int .u64 2, .string ⟨#[]⟩, .bool false, .string ⟨#[98]⟩, .int .u64 1, .string ⟨#[]⟩, .bool false] 24)
    rwa [World.size_alloc] at h
  have h3 : (((w.alloc (.cells #[.string ⟨#[97]⟩, .int .u64 3, .string ⟨#[]⟩, .bool false, .string ⟨#[97]⟩, .int .u64 1, .string ⟨#[]⟩, .bool false] 24)).alloc (.cells #[.string ⟨#[97]⟩, .int .u64 2, .string ⟨#[]⟩, .bool false, .string ⟨#[98]⟩, .int .u64 1, .string ⟨#[]⟩, .bool false] 24)).alloc (.cells #[.slice (some ⟨w.heap.size, 0, none⟩) 2 2, .slice (some ⟨w.heap.size + 1, 0, none⟩) 2 2] 25)).heap[w.heap.size + 1 + 1]? = some (.cells #[.slice (some ⟨w.heap.size, 0, none⟩) 2 2, .slice (some ⟨w.heap.size + 1, 0, none⟩) 2 2] 25 (0, 0)) := by
    have h := alloc_heap_new' ((w.alloc (.cells #[.string ⟨#[97]⟩, .int .u64 3, .string ⟨#[]⟩, .bool false, .string ⟨#[97]⟩, .int .u64 1, .string ⟨#[]⟩, .bool false] 24)).alloc (.cells #[.string ⟨#[97]⟩, .int .u64 2, .string ⟨#[]⟩, .bool false, .string ⟨#[98]⟩, .int .u64 1, .string ⟨#[]⟩, .bool false] 24)) (.cells #[.slice (some ⟨w.heap.size, 0, none⟩) 2 2, .slice (some ⟨w.heap.size + 1, 0, none⟩) 2 2] 25)
    rwa [World.size_alloc, World.size_alloc] at h
  refine C_lit2 w1L w2L h3 (C_lit w1L ((Below.heap_alloc _ _ _ (by simp; omega)).trans ((Below.heap_alloc _ _ _ (by simp)).trans h1)) rfl (by decide)) (by decide) (C_lit w2L ((Below.heap_alloc _ _ _ (by simp)).trans h2) rfl (by decide)) (by decide)
set_option maxHeartbeats 4000000 in
set_option maxRecDepth 100000 in
theorem atriumlaw10_awake.calls (r : Bool) (w : World) (h : atriumlaw10_awake.f = some r) :
    Calls Try.prog 11 #[] w fun e w' => e = .returned (.bool r) ∧ Below w.heap.size w w' := by
  obtain rfl := Option.some.inj h
  clear h
  obtain ⟨rv, hv, hvl⟩ := aw_vis
  obtain ⟨rd, hd, hdl⟩ := aw_drop
  obtain ⟨rc, hc, hcl⟩ := aw_cut
  have HV := Aside0.mk hv
  have HVL := Aside0.mk hvl
  have HD := Aside0.mk hd
  have HDL := Aside0.mk hdl
  have HC := Aside0.mk hc
  have HCL := Aside0.mk hcl
  clear hv hvl hd hdl hc hcl
  have hneq : ∀ (B : Nat) (w : World), (binOp .neq 37 (.func (.func 43) #[] #[.pointer (some ⟨B, 0, none⟩)]) .nilFunc).run Try.prog w = .ok (.bool true) w := fun _ _ => by kernel_rfl
  go_enter Try.func11, Try.ntmps11
  go_wp2_with (first
    | (go_at_call 17; refine (merge_Merge.calls _ _ [w1L, w2L] wL _ (aw_rows w) (by decide) aw_merge).mono ?_; rintro e wa ⟨v1, rfl, hr, hb⟩; obtain ⟨A1, c1, rfl, hc1, hC1⟩ := Kd.R_reads hr; have HC1 := Aside0.mk hC1; have HB1 := Aside0.mk hb; have HL1 := Aside0.mk hc1; clear hr hb hC1 hc1)
    | (go_at_call 18; refine (atriumlaw10_same.calls 6 _ _ wL _ _ wL true _ (Kd.C_alloc HC1.out _) HL1.out (C_lit wL (alloc_heap_new' wa _) rfl (by decide)) (by decide) aw_same).mono ?_; rintro e wb ⟨rfl, hb⟩; have HBb := Aside0.mk ((below_alloc (Below.refl _ _) _).trans (hb.below.mono (by simp))); clear hb)
    | (go_at_call 14; refine (merge_Sorted.calls 9 _ _ wL true _ (Kd.C_below HC1.out HBb.out) HL1.out aw_sorted).mono ?_; rintro e wc ⟨rfl, hb⟩; have HBc := Aside0.mk (HBb.out.trans (hb.mono HBb.out.size)); clear hb)
    | (go_at_call 21; refine (merge_Visible.calls _ _ wL 2 rv _ (Kd.C_below HC1.out HBc.out) HL1.out HV.out).mono ?_; rintro e wd ⟨v2, rfl, hr, hb⟩; have HBd := Aside0.mk (HBc.out.trans (hb.mono HBc.out.size)); obtain ⟨A2, c2, rfl⟩ := Kd.R_slice hr; rw [HVL.out]; clear hr hb)
    | (go_at_call 23; refine (merge_Drop.calls _ _ wL 2 false rd _ (Kd.C_below HC1.out HBd.out) HL1.out HD.out).mono ?_; rintro e we ⟨v3, rfl, hr, hb⟩; have HBe := Aside0.mk (HBd.out.trans (hb.mono HBd.out.size)); obtain ⟨A3, c3, rfl⟩ := Kd.R_slice hr; rw [HDL.out]; clear hr hb)
    | (go_at_call 20; refine (merge_Cells.calls _ _ [wL] wL _ (C_lit1 wL (alloc_heap_new' we _) (Kd.C_below HC1.out (below_alloc HBe.out _)) HL1.out) (by decide) aw_merge1).mono ?_; rintro e wf ⟨B, rfl, hcs⟩; have HBf := Aside0.mk ((below_alloc HBe.out _).trans (hcs.below.mono (below_alloc HBe.out _).size)); clear hcs)
    | (go_at_call 25; refine (merge_Cut.calls _ _ wL 1 rc _ (Kd.C_below HC1.out HBf.out) HL1.out HC.out).mono ?_; rintro e wg ⟨v4, rfl, hr, hb⟩; have HBg := Aside0.mk (HBf.out.trans (hb.mono HBf.out.size)); obtain ⟨A4, c4, rfl⟩ := Kd.S_slice hr; rw [HCL.out]; clear hr hb))
  go_ret
  refine ⟨rfl, ?_⟩
  have hwa : Below w.heap.size w wa := (below_alloc (below_alloc (below_alloc (Below.refl _ _) _) _) _).trans (HB1.out.mono (by simp; omega))
  exact hwa.trans (HBg.out.mono hwa.size)
end Go.Proofs.Ytdpnhnfhobmopaa.P
