/- Contracts proved by hand: awake of the pick laws. -/
import Derived.Test.YtdibolblgchpdaaRQ5
import Derived.Deep.RegionHeld3
import Derived.Deep.DeepCutAuto
namespace Go.Proofs.Ytdibolblgchpdaa.P
open Go.RowKit Go.Proofs.YtdibolblgchpdaaW.PrintWords Go.Proofs.YtdibolblgchpdaaW.PrintLast Go.Proofs.YtdibolblgchpdaaW.PrintMore
attribute [local go_sem] Oper.semAt_some
set_option linter.unusedVariables false
set_option linter.unusedSimpArgs false
theorem flat_get {α : Type} (f : α → List Value) (n : Nat) (hf : ∀ x, (f x).length = n) : ∀ (xs : List α) (j : Nat) (p : α) (i : Nat) (u : Value), xs[j]? = some p → (f p)[i]? = some u → (xs.flatMap f)[j * n + i]? = some u
  | [], j, p, i, u, h, _ => by simp at h
  | x :: xs, 0, p, i, u, h, hu => by
    have : x = p := by simpa using h
    subst this
    rw [List.flatMap_cons, Nat.zero_mul, Nat.zero_add, List.getElem?_append_left (List.getElem?_eq_some_iff.1 hu).1]
    exact hu
  | x :: xs, j + 1, p, i, u, h, hu => by
    have ih := flat_get f n hf xs j p i u (by simpa using h) hu
    rw [List.flatMap_cons, List.getElem?_append_right (by rw [hf]; rw [Nat.succ_mul]; omega), hf, Nat.succ_mul, show j * n + n + i - n = j * n + i by omega]
    exact ih
theorem C_lit44 {W : World} {g t : Nat} {cs : Array Value} (xs : List S44) (h : W.heap[g]? = some (.cells cs t (0, 0))) (hc : cs = (xs.flatMap c5).toArray) (hl : xs.length ≤ 9223372036854775807) : Kd.C k44 W (some ⟨g, 0, none⟩) xs.length xs := by
  refine ⟨rfl, hl, fun _ => ⟨_, rfl, fun j p hj => ⟨c5 p, rfl, k44_mk W p, fun i u hu => ?_⟩⟩⟩
  rw [add_zero_]
  refine (blkc h _ ?_).1
  rw [hc]
  have := flat_get c5 5 (fun _ => rfl) xs j p i u hj hu
  rw [List.getElem?_toArray]
  exact this
def c2 (x : S63) : List Value := [.int .i64 x.f0, .int .i64 x.f1]
theorem C_lit63 {W : World} {g t : Nat} {cs : Array Value} (xs : List S63) (h : W.heap[g]? = some (.cells cs t (0, 0))) (hc : cs = (xs.flatMap c2).toArray) (hl : xs.length ≤ 9223372036854775807) : Kd.C k63 W (some ⟨g, 0, none⟩) xs.length xs := by
  refine ⟨rfl, hl, fun _ => ⟨_, rfl, fun j p hj => ⟨c2 p, rfl, k63_mk W p, fun i u hu => ?_⟩⟩⟩
  rw [add_zero_]
  refine (blkc h _ ?_).1
  rw [hc]
  have := flat_get c2 2 (fun _ => rfl) xs j p i u hj hu
  rw [List.getElem?_toArray]
  exact this
def awA : List S44 := [⟨5, 9, 10, ⟨#[97]⟩, ⟨#[99]⟩⟩, ⟨6, 9, 10, ⟨#[98]⟩, ⟨#[100]⟩⟩]
def awB : List S44 := [⟨3, 9, 10, ⟨#[97]⟩, ⟨#[98]⟩⟩, ⟨4, 9, 10, ⟨#[120]⟩, ⟨#[122]⟩⟩]
def aw : List (List S44) := [awA, awB]
def awI : List S63 := [⟨0, 5⟩, ⟨0, 6⟩, ⟨1, 3⟩]
theorem aw_next : nextF aw 64 4 8 4096 2 1000 4 = (⟨0, awI, true⟩, true) := by kernel_rfl
theorem aw_work : workF aw = 220 := by kernel_rfl
theorem aw_rests : restsF aw 64 4 8 4096 2 1000 4 = false := by kernel_rfl
theorem aw_bound : boundV 64 4 8 4096 2 1000 4 3 = 16000 := by kernel_rfl
def oA : Obj := .cells #[.int .i64 5, .int .i64 9, .int .i64 10, .string ⟨#[97]⟩, .string ⟨#[99]⟩, .int .i64 6, .int .i64 9, .int .i64 10, .string ⟨#[98]⟩, .string ⟨#[100]⟩] 44
def oB : Obj := .cells #[.int .i64 3, .int .i64 9, .int .i64 10, .string ⟨#[97]⟩, .string ⟨#[98]⟩, .int .i64 4, .int .i64 9, .int .i64 10, .string ⟨#[120]⟩, .string ⟨#[122]⟩] 44
def awW (w : World) : World := (((w.alloc oA).alloc oB).alloc (.cells #[.slice (some ⟨w.heap.size, 0, none⟩) 2 2, .slice (some ⟨w.heap.size + 1, 0, none⟩) 2 2] 42)).alloc (.cells #[.slice (some ⟨w.heap.size + 1 + 1, 0, none⟩) 2 2] 24)
theorem awW_facts (w : World) : Kd.C (Kd.slice 44 k44) (awW w) (some ⟨w.heap.size + 1 + 1, 0, none⟩) 2 aw ∧ (awW w).heap[w.heap.size + 1 + 1 + 1]? = some (.cells #[.slice (some ⟨w.heap.size + 1 + 1, 0, none⟩) 2 2] 24 (0, 0)) ∧ Below w.heap.size w (awW w) := by
  have h1 : (w.alloc oA).heap[w.heap.size]? = some oA := World.alloc_heap_new w oA
  have h2 : ((w.alloc oA).alloc oB).heap[w.heap.size + 1]? = some oB := by
    have h := World.alloc_heap_new (w.alloc oA) oB
    rwa [World.size_alloc] at h
  have h3 : (((w.alloc oA).alloc oB).alloc (.cells #[.slice (some ⟨w.heap.size, 0, none⟩) 2 2, .slice (some ⟨w.heap.size + 1, 0, none⟩) 2 2] 42)).heap[w.heap.size + 1 + 1]? = some (.cells #[.slice (some ⟨w.heap.size, 0, none⟩) 2 2, .slice (some ⟨w.heap.size + 1, 0, none⟩) 2 2] 42 (0, 0)) := by
    have h := World.alloc_heap_new ((w.alloc oA).alloc oB) (.cells #[.slice (some ⟨w.heap.size, 0, none⟩) 2 2, .slice (some ⟨w.heap.size + 1, 0, none⟩) 2 2] 42)
    rwa [World.size_alloc, World.size_alloc] at h
  have h4 : (awW w).heap[w.heap.size + 1 + 1 + 1]? = some (.cells #[.slice (some ⟨w.heap.size + 1 + 1, 0, none⟩) 2 2] 24 (0, 0)) := by
    have h := World.alloc_heap_new (((w.alloc oA).alloc oB).alloc (.cells #[.slice (some ⟨w.heap.size, 0, none⟩) 2 2, .slice (some ⟨w.heap.size + 1, 0, none⟩) 2 2] 42)) (.cells #[.slice (some ⟨w.heap.size + 1 + 1, 0, none⟩) 2 2] 24)
    rwa [World.size_alloc, World.size_alloc, World.size_alloc] at h
  refine ⟨?_, h4, below_alloc (below_alloc (below_alloc (below_alloc (Below.refl _ _) _) _) _) _⟩
  refine Kd.C_alloc ?_ _
  refine C_two awA awB h3 (C_lit44 awA ((Below.heap_alloc _ _ _ (by simp; omega)).trans ((Below.heap_alloc _ _ _ (by simp)).trans h1)) rfl (by decide)) (by decide) (C_lit44 awB ((Below.heap_alloc _ _ _ (by simp)).trans h2) rfl (by decide)) (by decide)
theorem set_ends {w wB w6 W' : World} {g b q6 g3 g4 : Nat} {A6 : Option Addr} (hbW : Below wB.heap.size wB w6) (hz : w6.heap[g]? = some (.cells #[.int .i64 0, .slice none 0 0, .bool false] 33 (0, 0))) (hg : wB.heap.size ≤ g) (hW : W' = ((w6.setCell ⟨g, 0, none⟩ (.int .i64 0)).setCell ⟨g, 1, none⟩ (.slice A6 3 q6)).setCell ⟨g, 2, none⟩ (.bool true))
    (hR : Kd.R k63 63 w6 b (fun _ => True) (.slice A6 3 q6) awI) (hl : 3 ≤ q6) (hC : Kd.C (Kd.slice 44 k44) wB (some ⟨g3, 0, none⟩) 2 aw) (h4 : wB.heap[g4]? = some (.cells #[.slice (some ⟨g3, 0, none⟩) 2 2] 24 (0, 0))) (hB : Below w.heap.size w wB) :
    ∃ (g2 : Nat) (A6 : Option Addr) (q6 : Nat), Value.pointer (some ⟨g, 0, none⟩) = .pointer (some ⟨g2, 0, none⟩) ∧ Value.bool true = .bool true ∧ Aside0 (3 ≤ q6) ∧ Aside0 (W'.heap[g2]? = some (.cells #[.int .i64 0, .slice A6 3 q6, .bool true] 33 (0, 0))) ∧ Aside0 (Kd.C k63 W' A6 3 awI) ∧ Aside0 (Kd.C (Kd.slice 44 k44) W' (some ⟨g3, 0, none⟩) 2 aw) ∧ Aside0 (W'.heap[g4]? = some (.cells #[.slice (some ⟨g3, 0, none⟩) 2 2] 24 (0, 0))) ∧ Aside0 (Below w.heap.size w W') := by
  subst hW
  have s0 := Kd.R_far (p := ⟨g, 0, none⟩) (Kd.R_types hR hz (by decide)) (fun _ hk => hk.2) (.int .i64 0)
  have s1 := Kd.R_far (p := ⟨g, 1, none⟩) s0 (fun _ hk => hk.2) (.slice A6 3 q6)
  have s2 := Kd.R_far (p := ⟨g, 2, none⟩) s1 (fun _ hk => hk.2) (.bool true)
  have hb := below_set (j := 2) (v := .bool true) (below_set (j := 1) (v := .slice A6 3 q6) (below_set (j := 0) (v := .int .i64 0) hbW hg) hg) hg
  exact ⟨g, A6, q6, rfl, rfl, ⟨hl⟩, ⟨blk_put (blk_put (blk_put hz 0 _ rfl) 1 _ rfl) 2 _ rfl⟩, ⟨(Kd.R_reads' s2).2.2⟩, ⟨Kd.C_below hC hb⟩, ⟨blk_below h4 hb⟩, ⟨hB.trans (hb.mono hB.size)⟩⟩
set_option maxHeartbeats 8000000 in
set_option maxRecDepth 100000 in
theorem awake_calls (w : World) : Calls Try.prog 7 #[] w fun e w' => e = .returned (.bool true) ∧ Below w.heap.size w w' := by
  go_enter Try.func7, Try.ntmps7
  go_wp2
  obtain ⟨hC, h4, hB⟩ := awW_facts w
  show Code.wp Try.prog _ _ _ (awW w)
  generalize awW w = w4 at hC h4 hB ⊢
  generalize w.heap.size + 1 + 1 + 1 = g4 at h4 ⊢
  generalize w.heap.size + 1 + 1 = g3 at hC h4 ⊢
  have HC := Aside0.mk hC
  have H4 := Aside0.mk h4
  have HB := Aside0.mk hB
  have c4 := (blkc h4 0 rfl).1
  clear hC h4 hB
  have c4a := below_cell (below_alloc (Below.refl _ _) (.cells #[.int .i64 0, .slice none 0 0, .bool false] 33)) c4
  go_cut [2, 3] (fun v2 v3 wc => ∃ (g2 : Nat) (A6 : Option Addr) (q6 : Nat), v2 = .pointer (some ⟨g2, 0, none⟩) ∧ v3 = .bool true ∧ Aside0 (3 ≤ q6) ∧ Aside0 (wc.heap[g2]? = some (.cells #[.int .i64 0, .slice A6 3 q6, .bool true] 33 (0, 0))) ∧ Aside0 (Kd.C k63 wc A6 3 awI) ∧ Aside0 (Kd.C (Kd.slice 44 k44) wc (some ⟨g3, 0, none⟩) 2 aw) ∧ Aside0 (wc.heap[g4]? = some (.cells #[.slice (some ⟨g3, 0, none⟩) 2 2] 24 (0, 0))) ∧ Aside0 (Below w.heap.size w wc))
  case first =>
    go_region_held3 (fun w' => w'.cell? ⟨g4, 0, none⟩ = some (.slice (some ⟨g3, 0, none⟩) 2 2)) (first | exact c4 | exact c4a | exact c5 | exact c5a | exact c6 | exact c6a | exact c6b | exact cell_off (cell_off (cell_off c6 hne6) hne6) hne6) (first
      | (go_at_call 29; refine (atriumlaw12_options.calls 64 4 8 4096 2 1000 4 _ rfl).mono ?_; rintro e w5 ⟨rfl, hb⟩; have hb0 : Below w4.drew.heap.size w4.drew w5 := hb; have h0 := below_drew1 (Below.refl w4.heap.size w4); have hbb := h0.trans (hb0.mono h0.size); have c5 := below_cell hbb c4; have H5 := Aside0.mk (blk_below H4.out hbb); have HC5 := Aside0.mk (Kd.C_below HC.out hbb); have HB5 := Aside0.mk (HB.out.trans (hbb.mono HB.out.size)); have c5a := below_cell (below_alloc (Below.refl _ _) (.cells #[.int .i64 0, .slice none 0 0, .bool false] 33)) c5; clear hb hb0 hbb h0)
      | (go_at_call 29; refine (atriumlaw12_options.calls 64 4 8 4096 2 1000 4 _ rfl).mono ?_; rintro e w5 ⟨rfl, hb⟩; have hb0 : Below (w4.drew.alloc (.cells #[.int .i64 0, .slice none 0 0, .bool false] 33)).heap.size (w4.drew.alloc (.cells #[.int .i64 0, .slice none 0 0, .bool false] 33)) w5 := hb; have h0 := below_alloc (below_drew1 (Below.refl w4.heap.size w4)) (.cells #[.int .i64 0, .slice none 0 0, .bool false] 33); have hz : w5.heap[w4.heap.size]? = some (.cells #[.int .i64 0, .slice none 0 0, .bool false] 33 (0, 0)) := blk_below (World.alloc_heap_new w4.drew (.cells #[.int .i64 0, .slice none 0 0, .bool false] 33)) hb0; obtain ⟨k0, f0⟩ := blkc hz 0 rfl; obtain ⟨k1, f1⟩ := blkc hz 1 rfl; obtain ⟨k2, f2⟩ := blkc hz 2 rfl; have HZ := Aside0.mk hz; clear hz; have hbb := h0.trans (hb0.mono h0.size); have c5 := below_cell hbb c4; have H5 := Aside0.mk (blk_below H4.out hbb); have HC5 := Aside0.mk (Kd.C_below HC.out hbb); have HB5 := Aside0.mk (HB.out.trans (hbb.mono HB.out.size)); have H45 := Aside0.mk hbb; clear hb hb0 hbb h0)
      | (go_at_call 9; have _hz := HZ; refine (pnext _ 2 aw 64 4 8 4096 2 1000 4 w5 HC5.out (by decide)).mono ?_; rintro e w6 ⟨v6, rfl, hr, hb⟩; rw [aw_next] at hr ⊢; dsimp only at hr ⊢; have hbb := hb; have hz : w6.heap[w4.heap.size]? = some (.cells #[.int .i64 0, .slice none 0 0, .bool false] 33 (0, 0)) := blk_below HZ.out hb; have hne6 : g4 ≠ w4.heap.size := Nat.ne_of_lt (blk_lt H4.out); have hbW : Below w4.heap.size w4 w6 := H45.out.trans (hb.mono H45.out.size); have HBW := Aside0.mk hbW; have HCW := HC; have H4W := H4; have HWW := HB; clear hbW; obtain ⟨k0', f0'⟩ := blkc hz 0 rfl; obtain ⟨k1', f1'⟩ := blkc hz 1 rfl; obtain ⟨k2', f2'⟩ := blkc hz 2 rfl; have HZ6 := Aside0.mk hz; clear hz; have c6 := below_cell hbb c5; have H6 := Aside0.mk (blk_below H5.out hbb); have HC6 := Aside0.mk (Kd.C_below HC5.out hbb); have HB6 := Aside0.mk (HB5.out.trans (hbb.mono HB5.out.size)); obtain ⟨A6, q6, rfl, hl6, hC6⟩ := Kd.R_reads hr; have HRJ := Aside0.mk hr; have HJ6 := Aside0.mk hC6; have HL6 := Aside0.mk hl6; clear hr hb hbb hl6 hC6)
      | (go_at_call 9; refine (pnext _ 2 aw 64 4 8 4096 2 1000 4 w5 HC5.out (by decide)).mono ?_; rintro e w6 ⟨v6, rfl, hr, hb⟩; rw [aw_next] at hr ⊢; dsimp only at hr ⊢; have hbb := hb; have c6 := below_cell hbb c5; have H6 := Aside0.mk (blk_below H5.out hbb); have HC6 := Aside0.mk (Kd.C_below HC5.out hbb); have HB6 := Aside0.mk (HB5.out.trans (hbb.mono HB5.out.size)); obtain ⟨A6, q6, rfl, hl6, hC6⟩ := Kd.R_reads hr; have HRJ := Aside0.mk hr; have HJ6 := Aside0.mk hC6; have HL6 := Aside0.mk hl6; have c6a := below_cell (below_alloc (Below.refl _ _) (.cells #[.int .i64 0, .slice none 0 0, .bool false] 33)) c6; have c6b := below_cell (below_alloc (Below.refl _ _) (.cells #[.int .i64 0, .slice A6 3 q6, .bool true] 33)) c6; clear hr hb hbb hl6 hC6)
      | (go_at_call 9; refine (pnext _ 2 aw 64 4 8 4096 2 1000 4 (w5.alloc (.cells #[.int .i64 0, .slice none 0 0, .bool false] 33)) (Kd.C_alloc HC5.out _) (by decide)).mono ?_; rintro e w6 ⟨v6, rfl, hr, hb⟩; rw [aw_next] at hr ⊢; dsimp only at hr ⊢; have h0 := below_alloc (Below.refl w5.heap.size w5) (.cells #[.int .i64 0, .slice none 0 0, .bool false] 33); have hbb := h0.trans (hb.mono h0.size); have hz : w6.heap[w5.heap.size]? = some (.cells #[.int .i64 0, .slice none 0 0, .bool false] 33 (0, 0)) := blk_below (World.alloc_heap_new w5 (.cells #[.int .i64 0, .slice none 0 0, .bool false] 33)) hb; have hne6 : g4 ≠ w5.heap.size := Nat.ne_of_lt (blk_lt H5.out); have HBW := Aside0.mk hbb; have HCW := HC5; have H4W := H5; have HWW := HB5; obtain ⟨k0', f0'⟩ := blkc hz 0 rfl; obtain ⟨k1', f1'⟩ := blkc hz 1 rfl; obtain ⟨k2', f2'⟩ := blkc hz 2 rfl; have HZ6 := Aside0.mk hz; clear hz; have c6 := below_cell hbb c5; have H6 := Aside0.mk (blk_below H5.out hbb); have HC6 := Aside0.mk (Kd.C_below HC5.out hbb); have HB6 := Aside0.mk (HB5.out.trans (hbb.mono HB5.out.size)); obtain ⟨A6, q6, rfl, hl6, hC6⟩ := Kd.R_reads hr; have HRJ := Aside0.mk hr; have HJ6 := Aside0.mk hC6; have HL6 := Aside0.mk hl6; clear hr hb hbb hl6 hC6))
    · go_wp2
      go_meet
      case rel => exact ⟨_, A6, q6, rfl, rfl, HL6, ⟨World.alloc_heap_new w6 _⟩, ⟨Kd.C_alloc HJ6.out _⟩, ⟨Kd.C_alloc HC6.out _⟩, ⟨blk_alloc H6.out _⟩, ⟨below_alloc HB6.out _⟩⟩
    · go_wp2
      go_meet
      case rel => exact set_ends HBW.out HZ6.out (Nat.le_refl _) rfl HRJ.out HL6.out HCW.out H4W.out HWW.out
    · go_wp2
      go_meet
      case rel => exact set_ends HBW.out HZ6.out (Nat.le_refl _) rfl HRJ.out HL6.out HCW.out H4W.out HWW.out
  case rest =>
    obtain ⟨g2, A6, q6, rfl, rfl, HQ, H2, HJ, HC7, H7, HB7⟩ := hcut
    go_wp2
    have HI0 := Aside0.mk (Kd.C_alloc (C_lit63 awI (World.alloc_heap_new wc (.cells #[.int .i64 0, .int .i64 5, .int .i64 0, .int .i64 6, .int .i64 1, .int .i64 3] 63)) rfl (by decide)) (.cells #[.int .i64 0, .slice (some ⟨wc.heap.size, 0, none⟩) 3 3, .bool true] 33))
    have h5 := World.alloc_heap_new (wc.alloc (.cells #[.int .i64 0, .int .i64 5, .int .i64 0, .int .i64 6, .int .i64 1, .int .i64 3] 63)) (.cells #[.int .i64 0, .slice (some ⟨wc.heap.size, 0, none⟩) 3 3, .bool true] 33)
    rw [World.size_alloc] at h5
    have H50 := Aside0.mk h5
    have hbz := below_alloc (below_alloc (Below.refl wc.heap.size wc) (.cells #[.int .i64 0, .int .i64 5, .int .i64 0, .int .i64 6, .int .i64 1, .int .i64 3] 63)) (.cells #[.int .i64 0, .slice (some ⟨wc.heap.size, 0, none⟩) 3 3, .bool true] 33)
    have HJ0 := Aside0.mk (Kd.C_below HJ.out hbz)
    have HC0 := Aside0.mk (Kd.C_below HC7.out hbz)
    have H40 := Aside0.mk (blk_below H7.out hbz)
    have H20 := Aside0.mk (blk_below H2.out hbz)
    have HB0 := Aside0.mk (HB7.out.trans (hbz.mono HB7.out.size))
    clear h5 hbz
    generalize (wc.alloc (.cells #[.int .i64 0, .int .i64 5, .int .i64 0, .int .i64 6, .int .i64 1, .int .i64 3] 63)).alloc (.cells #[.int .i64 0, .slice (some ⟨wc.heap.size, 0, none⟩) 3 3, .bool true] 33) = v0 at HI0 H50 HJ0 HC0 H40 H20 HB0 ⊢
    generalize wc.heap.size + 1 = g5 at H50 ⊢
    generalize wc.heap.size = g3' at HI0 H50 ⊢
    obtain ⟨k, hk1, hk2, hk3, hk4⟩ : ∃ k, atriumlaw12_sameJob.f k 0 awI true 0 awI true = some true ∧ pick_Work.f k aw = some 220 ∧ pick_Rests.f k aw 64 4 8 4096 2 1000 4 = some false ∧ pick_Bound.f k 64 4 8 4096 2 1000 4 3 = some 16000 := by
      obtain ⟨K1, h1⟩ := sameJ_ev 0 awI true (by decide)
      obtain ⟨K2, h2⟩ := pwork_ev aw (by intro l hl; rcases List.mem_cons.1 hl with rfl | hl; decide; rcases List.mem_cons.1 hl with rfl | hl; decide; cases hl)
      obtain ⟨K3, h3⟩ := prests_ev aw 64 4 8 4096 2 1000 4
      obtain ⟨K4, h4⟩ := pbound_ev 64 4 8 4096 2 1000 4 3 (by decide)
      rw [aw_work] at h2
      rw [aw_rests] at h3
      rw [aw_bound] at h4
      exact ⟨max (max K1 K2) (max K3 K4), h1 _ (by omega), h2 _ (by omega), h3 _ (by omega), h4 _ (by omega)⟩
    have HSJ := Aside0.mk hk1
    have HWK := Aside0.mk hk2
    have HRS := Aside0.mk hk3
    have HBD := Aside0.mk hk4
    have d00 := (blkc H40.out 0 rfl).1
    have d01 := (blkc H20.out 0 rfl).1
    have d02 := (blkc H20.out 1 rfl).1
    have d03 := (blkc H20.out 2 rfl).1
    have d04 := (blkc H50.out 0 rfl).1
    have d05 := (blkc H50.out 1 rfl).1
    have d06 := (blkc H50.out 2 rfl).1
    clear hk1 hk2 hk3 hk4 HJ HC7 H7 HB7 H2
    go_region_held3 (fun w' => w'.cell? ⟨g4, 0, none⟩ = some (.slice (some ⟨g3, 0, none⟩) 2 2) ∧ w'.cell? ⟨g2, 0, none⟩ = some (.int .i64 0) ∧ w'.cell? ⟨g2, 1, none⟩ = some (.slice A6 3 q6) ∧ w'.cell? ⟨g2, 2, none⟩ = some (.bool true) ∧ w'.cell? ⟨g5, 0, none⟩ = some (.int .i64 0) ∧ w'.cell? ⟨g5, 1, none⟩ = some (.slice (some ⟨g3', 0, none⟩) 3 3) ∧ w'.cell? ⟨g5, 2, none⟩ = some (.bool true)) (first | exact ⟨d00, d01, d02, d03, d04, d05, d06⟩ | exact ⟨d10, d11, d12, d13, d14, d15, d16⟩ | exact ⟨d20, d21, d22, d23, d24, d25, d26⟩ | exact ⟨d30, d31, d32, d33, d34, d35, d36⟩ | exact ⟨d40, d41, d42, d43, d44, d45, d46⟩ | exact ⟨d50, d51, d52, d53, d54, d55, d56⟩ | exact ⟨d60, d61, d62, d63, d64, d65, d66⟩) (first
      | (go_at_call 11; refine (atriumlaw12_sameJob.calls k 0 A6 q6 awI true 0 (some ⟨g3', 0, none⟩) 3 awI true true _ (Kd.C_drew HJ0.out) HQ.out (Kd.C_drew HI0.out) (by decide) HSJ.out).mono ?_; rintro e v1 ⟨rfl, hb1⟩; have hb : Below v0.heap.size v0 v1 := (below_drew1 (Below.refl _ _)).trans hb1; have H41 := Aside0.mk (blk_below H40.out hb); have H21 := Aside0.mk (blk_below H20.out hb); have H51 := Aside0.mk (blk_below H50.out hb); have HC1 := Aside0.mk (Kd.C_below HC0.out hb); have HB1 := Aside0.mk (HB0.out.trans (hb.mono HB0.out.size)); have d10 := (blkc H41.out 0 rfl).1; have d11 := (blkc H21.out 0 rfl).1; have d12 := (blkc H21.out 1 rfl).1; have d13 := (blkc H21.out 2 rfl).1; have d14 := (blkc H51.out 0 rfl).1; have d15 := (blkc H51.out 1 rfl).1; have d16 := (blkc H51.out 2 rfl).1; clear hb1 hb)
      | (go_at_call 14; refine (pick_Work.calls k _ 2 aw 220 _ HC1.out (by decide) HWK.out).mono ?_; rintro e v2 ⟨rfl, hb⟩; have H42 := Aside0.mk (blk_below H41.out hb); have H22 := Aside0.mk (blk_below H21.out hb); have H52 := Aside0.mk (blk_below H51.out hb); have HC2 := Aside0.mk (Kd.C_below HC1.out hb); have HB2 := Aside0.mk (HB1.out.trans (hb.mono HB1.out.size)); have d20 := (blkc H42.out 0 rfl).1; have d21 := (blkc H22.out 0 rfl).1; have d22 := (blkc H22.out 1 rfl).1; have d23 := (blkc H22.out 2 rfl).1; have d24 := (blkc H52.out 0 rfl).1; have d25 := (blkc H52.out 1 rfl).1; have d26 := (blkc H52.out 2 rfl).1; clear hb)
      | (go_at_call 29; have _t := H44; refine (atriumlaw12_options.calls 64 4 8 4096 2 1000 4 _ rfl).mono ?_; rintro e v5 ⟨rfl, hb⟩; have H45 := Aside0.mk (blk_below H44.out hb); have H25 := Aside0.mk (blk_below H24.out hb); have H55 := Aside0.mk (blk_below H54.out hb); have HC5 := Aside0.mk (Kd.C_below HC4.out hb); have HB5 := Aside0.mk (HB4.out.trans (hb.mono HB4.out.size)); have d50 := (blkc H45.out 0 rfl).1; have d51 := (blkc H25.out 0 rfl).1; have d52 := (blkc H25.out 1 rfl).1; have d53 := (blkc H25.out 2 rfl).1; have d54 := (blkc H55.out 0 rfl).1; have d55 := (blkc H55.out 1 rfl).1; have d56 := (blkc H55.out 2 rfl).1; clear hb)
      | (go_at_call 29; refine (atriumlaw12_options.calls 64 4 8 4096 2 1000 4 _ rfl).mono ?_; rintro e v3 ⟨rfl, hb⟩; have H43 := Aside0.mk (blk_below H42.out hb); have H23 := Aside0.mk (blk_below H22.out hb); have H53 := Aside0.mk (blk_below H52.out hb); have HC3 := Aside0.mk (Kd.C_below HC2.out hb); have HB3 := Aside0.mk (HB2.out.trans (hb.mono HB2.out.size)); have d30 := (blkc H43.out 0 rfl).1; have d31 := (blkc H23.out 0 rfl).1; have d32 := (blkc H23.out 1 rfl).1; have d33 := (blkc H23.out 2 rfl).1; have d34 := (blkc H53.out 0 rfl).1; have d35 := (blkc H53.out 1 rfl).1; have d36 := (blkc H53.out 2 rfl).1; clear hb)
      | (go_at_call 12; refine (pick_Rests.calls k _ 2 aw 64 4 8 4096 2 1000 4 false _ HC3.out (by decide) HRS.out).mono ?_; rintro e v4 ⟨rfl, hb⟩; have H44 := Aside0.mk (blk_below H43.out hb); have H24 := Aside0.mk (blk_below H23.out hb); have H54 := Aside0.mk (blk_below H53.out hb); have HC4 := Aside0.mk (Kd.C_below HC3.out hb); have HB4 := Aside0.mk (HB3.out.trans (hb.mono HB3.out.size)); have d40 := (blkc H44.out 0 rfl).1; have d41 := (blkc H24.out 0 rfl).1; have d42 := (blkc H24.out 1 rfl).1; have d43 := (blkc H24.out 2 rfl).1; have d44 := (blkc H54.out 0 rfl).1; have d45 := (blkc H54.out 1 rfl).1; have d46 := (blkc H54.out 2 rfl).1; clear hb)
      | (go_at_call 22; refine (pick_Bound.calls k 64 4 8 4096 2 1000 4 3 16000 _ HBD.out).mono ?_; rintro e v6 ⟨rfl, hb⟩; have H46 := Aside0.mk (blk_below H45.out hb); have H26 := Aside0.mk (blk_below H25.out hb); have H56 := Aside0.mk (blk_below H55.out hb); have HC6 := Aside0.mk (Kd.C_below HC5.out hb); have HB6 := Aside0.mk (HB5.out.trans (hb.mono HB5.out.size)); have d60 := (blkc H46.out 0 rfl).1; have d61 := (blkc H26.out 0 rfl).1; have d62 := (blkc H26.out 1 rfl).1; have d63 := (blkc H26.out 2 rfl).1; have d64 := (blkc H56.out 0 rfl).1; have d65 := (blkc H56.out 1 rfl).1; have d66 := (blkc H56.out 2 rfl).1; clear hb))
    go_wp2
    go_ret
    exact ⟨rfl, HB6.out⟩
end Go.Proofs.Ytdibolblgchpdaa.P
