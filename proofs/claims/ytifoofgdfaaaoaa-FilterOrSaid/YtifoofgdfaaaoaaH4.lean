/- filter.Build by hand: a loop over the keys, in each round a range over a function. -/
import Derived.Test.YtifoofgdfaaaoaaH2
namespace Go
open Go.RowKit
/-- The marks that ranges over functions leave among a frame's deferred calls. -/
def collMarks (Ds : List Nat) : List Deferred := Ds.map fun D => { target := .collected D, args := #[] }
/-- What the leaving of a frame does at these marks: blocks that are no cells are shut. -/
structure ShutMarks (Ds : List Nat) (W W' : World) : Prop where
  os : W'.os = W.os
  tape : W'.tape = W.tape
  output : W'.output = W.output
  size : W'.heap.size = W.heap.size
  block : ∀ k, k ∉ Ds → W'.heap[k]? = W.heap[k]?
theorem ShutMarks.below {Ds : List Nat} {W W' : World} (h : ShutMarks Ds W W') {B : Nat} (hD : ∀ D ∈ Ds, B ≤ D) : Below B W W' := ⟨h.os, h.tape, h.output, by rw [h.size]; exact Nat.le_refl _, fun k hk => h.block k (fun hm => by have := hD k hm; omega)⟩
theorem ShutMarks.cell {Ds : List Nat} {W W' : World} (h : ShutMarks Ds W W') {a : Addr} {v : Value} (hD : ∀ D ∈ Ds, ∃ o : Obj, W.heap[D]? = some o ∧ o.isCells = false) (hc : W.cell? a = some v) : W'.cell? a = some v := by
  refine (World.cell?_of_block (h.block a.block ?_)).trans hc
  intro hm
  obtain ⟨o, ho, hn⟩ := hD _ hm
  obtain ⟨o', ho', hy⟩ := cells_of_cell hc
  rw [ho] at ho'; cases ho'
  rw [hn] at hy; cases hy
theorem ShutMarks.heap {Ds : List Nat} {W W' : World} (h : ShutMarks Ds W W') {k : Nat} {o : Obj} (hD : ∀ D ∈ Ds, ∃ o : Obj, W.heap[D]? = some o ∧ o.isCells = false) (hc : W.heap[k]? = some o) (ho : o.isCells = true) : W'.heap[k]? = some o := by
  refine (h.block k ?_).trans hc
  intro hm
  obtain ⟨o', ho', hn⟩ := hD _ hm
  rw [hc] at ho'; cases ho'
  rw [hn] at ho; cases ho
theorem leavesMarks {F : Fence} {n : Nat} {P : Program} {fn : Func} {tmps : Array Value} {R : Ending → World → Prop} : ∀ (Ds : List Nat) (W : World), Ds.Nodup → (∀ D ∈ Ds, W.heap[D]? = some (.deferred (some []))) →
    (∀ W', ShutMarks Ds W W' → ∃ v, (results fn tmps).run P W' = .ok v W' ∧ R (.returned v) W') → LeavesInM F n P fn tmps R (collMarks Ds) .returning W
  | [], W, _, _, h => by
    obtain ⟨v, hv, hr⟩ := h W ⟨rfl, rfl, rfl, rfl, fun _ _ => rfl⟩
    exact ⟨v, hv, hr⟩
  | D :: Ds, W, hnd, hD, h => by
    have hK := hD D (by simp)
    have hnd' := List.nodup_cons.1 hnd
    refine ⟨by simp, .inl ⟨D, _, rfl, run_takeDeferred hK, ?_⟩⟩
    refine leavesMarks Ds _ hnd'.2 (fun D' hm => (World.putObj_heap_other (fun e => hnd'.1 (by subst e; exact hm))).trans (hD D' (by simp [hm]))) ?_
    intro W' hs
    refine h W' ⟨hs.os, hs.tape, hs.output, by rw [hs.size]; simp [World.putObj], fun k hk => ?_⟩
    rw [hs.block k (fun hm => hk (by simp [hm]))]
    exact World.putObj_heap_other (fun e => hk (by simp [e]))
end Go
namespace Go.Proofs.Ytifoofgdfaaaoaa.P
open Go.RowKit Go.Shelf Go.Proofs.YtifoofgdfaaaoaaW.PrintWords Go.Proofs.YtifoofgdfaaaoaaW.PrintLast Go.Proofs.YtifoofgdfaaaoaaW.PrintMore
attribute [local go_sem] Oper.semAt_some
set_option linter.unusedVariables false
set_option linter.unusedSimpArgs false


/-- The bits of one key's places, one behind the other. -/
def foldBits (h d m : Int) (pre : List Nat) (l : List Int) : List Int := pre.foldl (fun l i => setBit l (placeAt h d m i)) l
theorem foldBits_snoc (h d m : Int) (pre : List Nat) (i : Nat) (l : List Int) : foldBits h d m (pre ++ [i]) l = setBit (foldBits h d m pre l) (placeAt h d m i) := by simp [foldBits]
theorem foldBits_range (h d m : Int) (k : Nat) (l : List Int) : foldBits h d m (List.range k) l = keyBits h d m k l := by
  induction k with
  | zero => rfl
  | succ k ih => rw [range_snoc, foldBits_snoc, ih]; rfl
theorem foldBits_length (h d m : Int) (pre : List Nat) : ∀ l : List Int, (foldBits h d m pre l).length = l.length := by
  induction pre with
  | nil => intro l; rfl
  | cons i pre ih => intro l; show (foldBits h d m pre _).length = _; rw [ih, setBit_length]
/-- The filter's bytes behind the first j keys. -/
def bytesAt (N k : Nat) (l0 : List ByteArray) (j : Nat) : List Int := keysBits ((N : Int) * 8) k (l0.take j) (List.replicate N 0 ++ [(k : Int)])
theorem bytesAt_length (N k : Nat) (l0 : List ByteArray) (j : Nat) : (bytesAt N k l0 j).length = N + 1 := by unfold bytesAt; rw [keysBits_length]; simp
theorem pow_small (e : Nat) (h : e < 8) : (2 : Int) ^ e % 256 = 2 ^ e := by
  have : e = 0 ∨ e = 1 ∨ e = 2 ∨ e = 3 ∨ e = 4 ∨ e = 5 ∨ e = 6 ∨ e = 7 := by omega
  rcases this with rfl | rfl | rfl | rfl | rfl | rfl | rfl | rfl <;> decide
theorem blk_cell1 {W : World} {g t : Nat} {cs : Array Value} (h : W.heap[g]? = some (.cells cs t (0, 0))) (j : Nat) {v : Value} (hv : cs[j]? = some v) : W.cell? ⟨g, j, none⟩ = some v ∧ W.frozen? ⟨g, j, none⟩ = false := by
  unfold World.cell? World.frozen?
  constructor
  · simpa [h] using hv
  · simp [h]
theorem nums_at (k : IntKind) (l : List Int) (i : Int) (h0 : 0 ≤ i) (h1 : i < l.length) : (nums k l).toArray[i.toNat]? = some (.int k (rd l i)) := by
  have h : i.toNat < l.length := by omega
  simp [nums, rd, List.getD_eq_getElem?_getD, List.getElem?_eq_getElem h]
theorem nums_put (k : IntKind) (l : List Int) (j : Nat) (x : Int) : (nums k l).toArray.setIfInBounds j (.int k x) = (nums k (l.set j x)).toArray := by
  simp [nums, List.map_set]
theorem ownFrom_blk {β : Type} {B k : Nat} (hk : k < B) (o : β → Obj) : OwnFrom B (fun (s : β) W => W.heap[k]? = some (o s)) := fun s W W' row hs hg hr =>
  (hg.block k (Array.getElem?_eq_some_iff.1 hs).1 (fun e => by have := (hr k e.symm).1; omega)).trans hs
theorem ownFrom_marks {β : Type} {B : Nat} (Ds : List Nat) (hk : ∀ D ∈ Ds, D < B) : OwnFrom B (fun (_ : β) W => ∀ D ∈ Ds, W.heap[D]? = some (.deferred (some []))) := fun s W W' row hs hg hr D hD =>
  (hg.block D (Array.getElem?_eq_some_iff.1 (hs D hD)).1 (fun e => by have := (hr D e.symm).1; have := hk D hD; omega)).trans (hs D hD)
theorem R_of_blk {W : World} {g base : Nat} {l : List Int} (h : W.heap[g]? = some (.cells (nums .u8 l).toArray 5 (0, 0))) (hb : base ≤ g) (hl : l.length ≤ 9223372036854775807) : Kd.R (Kd.int .u8) 5 W base (fun _ => True) (.slice (some ⟨g, 0, none⟩) l.length l.length) l := by
  refine Kd.R_of_own (enc := Value.int .u8) ⟨by simp [encs], .inr ⟨g, l.length, _, rfl, hb, h, Nat.le_refl _, by simpa [maxLen] using hl, by simp [nums], ?_⟩⟩ (fun _ _ => trivial)
  simp [nums, encs, List.take_of_length_le]
/-- Between two keys: the row, the variable that holds it, the marks. -/
structure BuildAt (w W : World) (N k : Nat) (l0 : List ByteArray) (j : Nat) (Ds : List Nat) : Prop where
  below : Below w.heap.size w W
  size : w.heap.size + 2 ≤ W.heap.size
  row : W.heap[w.heap.size]? = some (.cells (nums .u8 (bytesAt N k l0 j)).toArray 5 (0, 0))
  box : W.heap[w.heap.size + 1]? = some (.cells #[.slice (some ⟨w.heap.size, 0, none⟩) (N + 1) (N + 1)] 24 (0, 0))
  nodup : Ds.Nodup
  marks : ∀ D ∈ Ds, w.heap.size + 2 ≤ D ∧ W.heap[D]? = some (.deferred (some []))
theorem max2_mx (k k' : IntKind) (x y : Int) : Builtin.max2 (.int k x) (.int k' y) = pure (.int k (mx x y)) := by simp only [Builtin.max2, gt_iff_lt, mx]
theorem min2_mn (k k' : IntKind) (x y : Int) : Builtin.min2 (.int k x) (.int k' y) = pure (.int k (mn x y)) := by simp only [Builtin.min2, mn]
attribute [local go_sem] max2_mx min2_mn max_two min_two
theorem nums_made (k : IntKind) (n : Nat) : madeCells #[Value.int k 0] n = (nums k (List.replicate n 0)).toArray := by
  apply Array.ext
  · simp [madeCells, nums]
  · intro i h1 h2
    simp [madeCells, nums, Nat.mod_one]
set_option maxHeartbeats 4000000 in
set_option maxRecDepth 100000 in
theorem build_core (A0 : Option Addr) (c0 : Nat) (l0 : List ByteArray) (b : Int) (hb1 : 1 ≤ b) (hb32 : b ≤ 32) (hn : l0.length ≤ 65536) (hks : ∀ s ∈ l0, s.size ≤ 140737488351232)
    (w : World) (hr0 : Kd.C Kd.string w A0 l0.length l0) (hc0 : l0.length ≤ c0) :
    Calls Try.prog 8 #[.slice A0 l0.length c0, .int .i64 b] w fun e w' => ∃ v0_ : Value, e = .returned (.tuple #[v0_, .int .i64 0]) ∧ Kd.R (Kd.int .u8) 5 w' w.heap.size (fun _ => True) v0_ (buildBytes l0 b) ∧ Below w.heap.size w w' := by
  obtain ⟨p, hp⟩ : ∃ p : Int, (l0.length : Int) * b = p := ⟨_, rfl⟩
  have hp0 : 0 ≤ p := by rw [← hp]; exact Int.mul_nonneg (by omega) (by omega)
  have hp1 : p ≤ 2097152 := by
    rw [← hp]
    calc (l0.length : Int) * b ≤ 65536 * 32 := Int.mul_le_mul (by omega) hb32 (by omega) (by omega)
      _ = 2097152 := by decide
  obtain ⟨q, hq⟩ : ∃ q, mx 64 p = q := ⟨_, rfl⟩
  have hq0 : 64 ≤ q ∧ q ≤ 2097152 := by unfold mx at hq; split at hq <;> omega
  obtain ⟨N, hN⟩ : ∃ N : Nat, (q + 7) / 8 = (N : Int) := ⟨((q + 7) / 8).toNat, by omega⟩
  have hN8 : 8 ≤ N ∧ N ≤ 262144 := by omega
  have hBN : bytesFor l0.length b = N := by
    unfold bytesFor
    rw [hp, show max 64 p = q by rw [← hq]; unfold mx; split <;> omega, hN]
    simp
  obtain ⟨r, hr⟩ : ∃ r, mx (b * 69 / 100) 1 = r := ⟨_, rfl⟩
  have hr0' : 1 ≤ r ∧ r ≤ 22 := by unfold mx at hr; split at hr <;> omega
  obtain ⟨k, hk⟩ : ∃ k : Nat, mn r 30 = (k : Int) := ⟨r.toNat, by unfold mn; split <;> omega⟩
  have hk0 : 1 ≤ k ∧ k ≤ 30 := by unfold mn at hk; split at hk <;> omega
  have hPF : placesFor b = k := by
    unfold placesFor
    rw [show max (b * 69 / 100) 1 = r by rw [← hr]; unfold mx; split <;> omega, show min r 30 = (k : Int) by rw [← hk]; unfold mn; split <;> omega]
    simp
  have hmk : ∀ W : World, (Instr.makeSlice 24 (.int .i64 ((N : Int) + 1)) (.int .i64 ((N : Int) + 1))).run Try.prog W = .ok (.slice (some ⟨W.heap.size, 0, none⟩) (N + 1) (N + 1)) (W.alloc (.cells (nums .u8 (List.replicate (N + 1) 0)).toArray 5)) := by
    intro W
    have := print_make (P := Try.prog) 24 5 .u8 1 Try.underlying24 info5 (by decide) (N + 1) (by omega) W
    rw [nums_made] at this
    simpa using this
  obtain ⟨L0, hL0⟩ : ∃ L0, nums .u8 (List.replicate (N + 1) 0) = L0 := ⟨_, rfl⟩
  rw [hL0] at hmk
  have hLN : L0[N]? = some (.int .u8 0) := by rw [← hL0]; simp [nums]
  have HL0 := Aside0.mk hL0
  clear hL0
  have HR0 := Aside0.mk hr0
  have HKS := Aside0.mk hks
  have HBN := Aside0.mk hBN
  have HPF := Aside0.mk hPF
  clear hr0 hks hBN hPF
  refine (callsIn_wide (n := 9)).1 ?_
  refine callsIn_of_wp_marks Try.func8 rfl trivial ?_ rfl
  simp only [Try.ntmps8, List.size_toArray, List.length_cons, List.length_nil, Nat.reduceAdd, Nat.reduceSub, Array.replicate_succ, Array.replicate_zero, List.push_toArray, List.append_toArray, List.nil_append, List.cons_append]
  gi_wp2_with fail
  rw [hN]
  clear hN hq hr hk hp hmk hLN
  refine wpIn_loop (fun a' W => ∃ (j : Nat) (Ds : List Nat) (u10 u46 u47 u48 u49 u50 u51 u52 u53 u54 u66 : Value), (j ≤ l0.length ∧ u46 = .int .i64 j ∧ BuildAt w W N k l0 j Ds) ∧ a' = { tmps := #[Value.slice A0 l0.length c0, Value.int IntKind.i64 b, undef, undef, Value.slice none 0 0, Value.int IntKind.i64 0, Value.int IntKind.i64 (↑N * 8), Value.int IntKind.i64 ↑k, Value.pointer (some { block := w.heap.size + 1, off := 0 }), undef, u10, undef, Value.int IntKind.i64 b, Value.bool (decide (b < 1)), Value.bool (decide (b < 1)), Value.int IntKind.i64 b, Value.bool (decide (32 < b)), Value.bool (decide (b < 1) || decide (32 < b)), Value.slice A0 l0.length c0, Value.int IntKind.i64 ↑l0.length, Value.bool (decide (65536 < (l0.length : Int))), Value.slice A0 l0.length c0, Value.int IntKind.i64 ↑l0.length, Value.int IntKind.i64 b, Value.int IntKind.i64 p, Value.int IntKind.i64 q, Value.int IntKind.i64 (q + 7), Value.int IntKind.i64 ↑N, Value.int IntKind.i64 (↑N * 8), Value.int IntKind.i64 b, Value.int IntKind.i64 (b * 69), Value.int IntKind.i64 (b * 69 / 100), Value.int IntKind.i64 r, Value.int IntKind.i64 ↑k, Value.int IntKind.i64 (↑N * 8), Value.int IntKind.i64 ↑N, Value.int IntKind.i64 (↑N + 1), Value.slice (some { block := w.heap.size, off := 0 }) (N + 1) (N + 1), Value.slice (some { block := w.heap.size, off := 0 }) (N + 1) (N + 1), Value.int IntKind.i64 (↑N * 8), Value.int IntKind.i64 ↑N, Value.int IntKind.i64 ↑k, Value.int IntKind.u8 ↑k, Value.pointer (some { block := w.heap.size, off := N }), Value.slice A0 l0.length c0, Value.int IntKind.i64 ↑l0.length, u46, u47, u48, u49, u50, u51, u52, u53, u54, undef, undef, undef, undef, undef, undef, undef, undef, undef, undef, undef, u66, undef], defers := collMarks Ds })
    (fun a' _ => l0.length - (intOf (a'.tmps.getD 46 undef)).toNat) ?_ ?_
  · refine ⟨0, [], _, _, _, _, _, _, _, _, _, _, _, ⟨by omega, rfl, ?_⟩, rfl⟩
    refine ⟨below_alloc (below_alloc (Below.refl _ _) _) _, by simp, ?_, ?_, List.nodup_nil, by simp⟩
    · refine (Below.heap_alloc _ _ _ (by simp)).trans ((World.alloc_heap_new w _).trans ?_)
      have e : (L0.set N (Value.int .u8 (k : Int))).toArray = (nums .u8 (bytesAt N k l0 0)).toArray := by
        rw [← HL0.out]
        have := nums_put .u8 (List.replicate (N + 1) 0) N (k : Int)
        simp only [List.setIfInBounds_toArray] at this
        rw [this]
        congr 1
        unfold bytesAt keysBits
        simp only [List.take_zero, List.foldl_nil]
        rw [List.replicate_succ', List.set_append]
        simp
      rw [e]
    · have h := World.alloc_heap_new (w.alloc (.cells (L0.set N (Value.int .u8 (k : Int))).toArray 5)) (.cells #[.slice (some ⟨w.heap.size, 0, none⟩) (N + 1) (N + 1)] 24)
      rw [World.size_alloc] at h
      exact h
  · intro a' W hinv
    obtain ⟨j, Ds, u10, u46, u47, u48, u49, u50, u51, u52, u53, u54, u66, ⟨hj, rfl, hat⟩, rfl⟩ := hinv
    dsimp only
    have HAT := Aside0.mk hat
    clear hat
    by_cases hlt : j < l0.length
    · obtain ⟨ad, ea, hx⟩ := Kd.at_string HR0.out (j : Int) (by omega) (by omega)
      subst ea
      rw [Int.toNat_natCast] at hx
      have hxc : W.cell? (ad.add j) = some (.string (rdOf ByteArray.empty l0 j)) := (HAT.out.below.cell (World.block_lt_of_cell? w _ hx)).trans hx
      obtain ⟨s, hs⟩ : ∃ s, rdOf ByteArray.empty l0 (j : Int) = s := ⟨_, rfl⟩
      have hsl : l0[j]? = some s := by rw [← hs]; simp [rdOf, List.getD_eq_getElem?_getD, List.getElem?_eq_getElem hlt]
      have HSL := Aside0.mk hsl
      rw [hs] at hxc
      have hsm := HKS.out s (List.mem_of_getElem? hsl)
      have HP := Aside0.mk (places_calls s hsm ((N : Int) * 8) k W)
      clear hs hx hsl hsm
      gi_wp2_with (refine ⟨trivial, ?_⟩; gi_at_call 19; refine (callsIn_wide.2 HP.out).mono ?_; rintro e w1 ⟨rfl, hpl⟩)
      have HPL := Aside0.mk hpl
      clear hpl HP hxc
      have hB1 : Below w.heap.size w w1 := HAT.out.below.trans (HPL.out.below.mono HAT.out.below.size)
      have hsW := HAT.out.size
      have hs1 := HPL.out.size
      have hrow : w1.heap[w.heap.size]? = some (.cells (nums .u8 (bytesAt N k l0 j)).toArray 5 (0, 0)) := (HPL.out.below.block _ (by omega)).trans HAT.out.row
      have hbox : w1.heap[w.heap.size + 1]? = some (.cells #[.slice (some ⟨w.heap.size, 0, none⟩) (N + 1) (N + 1)] 24 (0, 0)) := (HPL.out.below.block _ (by omega)).trans HAT.out.box
      have hDlt : ∀ D ∈ Ds, D < W.heap.size := fun D hD => (Array.getElem?_eq_some_iff.1 (HAT.out.marks D hD).2).1
      have hmarks : ∀ D ∈ Ds, w1.heap[D]? = some (.deferred (some [])) := fun D hD => (HPL.out.below.block _ (hDlt D hD)).trans (HAT.out.marks D hD).2
      have hst := places_stops (9 - 1) (by omega) W.heap.size W.heap.size (W.heap.size + 4) k (by omega) s ((N : Int) * 8) (by omega) (by omega) w1 (by omega) (by omega) (by omega) HPL.out.cM HPL.out.cK HPL.out.cH HPL.out.cD
      have HROW := Aside0.mk hrow
      have HBOX := Aside0.mk hbox
      have HMK := Aside0.mk hmarks
      have HDL := Aside0.mk hDlt
      have HST := Aside0.mk hst
      clear hrow hbox hmarks hDlt hst
      refine wpIn_rangeFunc_ownF rfl (by omega) (gf := 25) (lb := #[Value.pointer (some ⟨W.heap.size + 1, 0, none⟩), Value.pointer (some ⟨W.heap.size + 2, 0, none⟩), Value.pointer (some ⟨W.heap.size + 3, 0, none⟩), Value.pointer (some ⟨W.heap.size, 0, none⟩)]) rfl trivial (enters_of Try.func25 (by kernel_rfl) rfl)
        HST.out keepIn_t (keepIn_b (by omega)) (Below.refl _ _) (fun _ => rfl)
        (fun pre W2 => ((W2.heap[w.heap.size]? = some (.cells (nums .u8 (foldBits (hOf s) (dOf s) ((N : Int) * 8) pre (bytesAt N k l0 j))).toArray 5 (0, 0)) ∧ W2.heap[w.heap.size + 1]? = some (.cells #[.slice (some ⟨w.heap.size, 0, none⟩) (N + 1) (N + 1)] 24 (0, 0))) ∧ (∀ D ∈ Ds, W2.heap[D]? = some (.deferred (some [])))) ∧ Below w.heap.size w W2)
        (fun _ _ _ => False)
        (OwnFrom.and (OwnFrom.and (OwnFrom.and (ownFrom_blk (by omega) _) (ownFrom_blk (by omega) _)) (ownFrom_marks Ds (fun D hD => by have := HDL.out D hD; omega))) (ownFrom_below (Nat.le_refl _) (by omega)))
        (fun _ _ _ _ _ hs _ _ => hs)
        ⟨⟨⟨HROW.out, HBOX.out⟩, HMK.out⟩, hB1⟩
        (fun x => { tmps := #[Value.slice (some ad) l0.length c0, Value.int IntKind.i64 b, undef, undef, Value.slice none 0 0, Value.int IntKind.i64 0, Value.int IntKind.i64 (↑N * 8), Value.int IntKind.i64 ↑k, Value.pointer (some { block := w.heap.size + 1, off := 0 }), undef, Value.string s, Value.int IntKind.u64 (placeAt (hOf s) (dOf s) (↑N * 8) x), Value.int IntKind.i64 b, Value.bool (decide (b < 1)), Value.bool (decide (b < 1)), Value.int IntKind.i64 b, Value.bool (decide (32 < b)), Value.bool (decide (b < 1) || decide (32 < b)), Value.slice (some ad) l0.length c0, Value.int IntKind.i64 ↑l0.length, Value.bool (decide (65536 < (l0.length : Int))), Value.slice (some ad) l0.length c0, Value.int IntKind.i64 ↑l0.length, Value.int IntKind.i64 b, Value.int IntKind.i64 p, Value.int IntKind.i64 q, Value.int IntKind.i64 (q + 7), Value.int IntKind.i64 ↑N, Value.int IntKind.i64 (↑N * 8), Value.int IntKind.i64 b, Value.int IntKind.i64 (b * 69), Value.int IntKind.i64 (b * 69 / 100), Value.int IntKind.i64 r, Value.int IntKind.i64 ↑k, Value.int IntKind.i64 (↑N * 8), Value.int IntKind.i64 ↑N, Value.int IntKind.i64 (↑N + 1), Value.slice (some { block := w.heap.size, off := 0 }) (N + 1) (N + 1), Value.slice (some { block := w.heap.size, off := 0 }) (N + 1) (N + 1), Value.int IntKind.i64 (↑N * 8), Value.int IntKind.i64 ↑N, Value.int IntKind.i64 ↑k, Value.int IntKind.u8 ↑k, Value.pointer (some { block := w.heap.size, off := N }), Value.slice (some ad) l0.length c0, Value.int IntKind.i64 ↑l0.length, Value.int IntKind.i64 ↑j, Value.bool true, Value.pointer (some (ad.add j)), Value.string s, Value.string s, Value.int IntKind.i64 (↑N * 8), Value.int IntKind.u64 (↑N * 8), Value.int IntKind.i64 ↑k, Value.func (Fn.func 25) #[] #[Value.pointer (some ⟨W.heap.size + 1, 0, none⟩), Value.pointer (some ⟨W.heap.size + 2, 0, none⟩), Value.pointer (some ⟨W.heap.size + 3, 0, none⟩), Value.pointer (some ⟨W.heap.size, 0, none⟩)], Value.int IntKind.u64 (placeAt (hOf s) (dOf s) (↑N * 8) x), undef, undef, undef, undef, undef, undef, undef, undef, undef, undef, u66, undef], defers := [] }) ?assign ?body ?done ?stop
      case assign =>
        intro l x W2 K hK
        gi_wp2
        exact hK
      case body =>
        rintro l pre x W2 ⟨⟨⟨hr2, hb2⟩, hm2⟩, hB2⟩ _
        have HB2 := Aside0.mk hB2
        have HM2 := Aside0.mk hm2
        clear hB2 hm2 hB1
        have hbd := placeAt_bd (hOf s) (dOf s) ((N : Int) * 8) x (by omega)
        obtain ⟨pp, hpq⟩ : ∃ pp, placeAt (hOf s) (dOf s) ((N : Int) * 8) x = pp := ⟨_, rfl⟩
        have HPQ := Aside0.mk hpq
        rw [hpq] at hbd ⊢
        clear hpq
        obtain ⟨Lc, hLc⟩ : ∃ Lc, foldBits (hOf s) (dOf s) ((N : Int) * 8) pre (bytesAt N k l0 j) = Lc := ⟨_, rfl⟩
        have hLl : Lc.length = N + 1 := by rw [← hLc, foldBits_length, bytesAt_length]
        rw [hLc] at hr2
        have hcr := blk_cell1 hr2 (pp / 8).toNat (nums_at .u8 Lc (pp / 8) (by omega) (by omega))
        have hcb := blk_cell1 hb2 0 (v := .slice (some ⟨w.heap.size, 0, none⟩) (N + 1) (N + 1)) rfl
        have HR2 := Aside0.mk hr2
        have HBX2 := Aside0.mk hb2
        have HLC := Aside0.mk hLc
        have hcr1 := hcr.1
        have hcr2 := hcr.2
        have hcb1 := hcb.1
        clear hr2 hb2 hLc hcr hcb
        have hq1 : 0 ≤ pp / 8 := by omega
        have hq2 : pp / 8 < (N : Int) + 1 := by omega
        gi_wp2
        have e2 : (2 : Int) ^ (pp % 8).toNat % 256 = 2 ^ (pp % 8).toNat := pow_small _ (by omega)
        rw [e2]
        refine ⟨KeepsOthers.setCell _ _ _, KeepIn.setCell _ _ _ _ (.inl (by show w.heap.size < _; omega)) _, ⟨⟨⟨?_, ?_⟩, ?_⟩, ?_⟩⟩
        · rw [foldBits_snoc, HLC.out, HPQ.out]
          have h := blk_set HR2.out (pp / 8).toNat (.int .u8 (bits .or .u8 (rd Lc (pp / 8)) (2 ^ (pp % 8).toNat)))
          rw [nums_put] at h
          exact h
        · exact (Below.heap_setCell _ _ _ _ (by show w.heap.size + 1 ≠ w.heap.size; omega)).trans HBX2.out
        · exact fun D hD => (KeepsOthers.setCell W2 _ _).same D _ (HM2.out D hD) rfl
        · exact HB2.out.setCell (p := ⟨w.heap.size, (pp / 8).toNat, none⟩) (Nat.le_refl _) _
      case done =>
        rintro D ys W2 hD rfl ⟨⟨⟨hr2, hb2⟩, hm2⟩, hB2⟩ hK
        have HB2 := Aside0.mk hB2
        have HM2 := Aside0.mk hm2
        have HR2 := Aside0.mk hr2
        have HBX2 := Aside0.mk hb2
        have HKD := Aside0.mk hK
        clear hB2 hm2 hr2 hb2 hK hB1
        gi_wp2
        refine ⟨⟨j + 1, D :: Ds, _, _, _, _, _, _, _, _, _, _, _, ⟨by omega, by go_num, ?_⟩, rfl⟩, ?_⟩
        · refine ⟨HB2.out, ?_, ?_, HBX2.out, ?_, ?_⟩
          · have := (Array.getElem?_eq_some_iff.1 HBX2.out).1; omega
          · rw [HR2.out, foldBits_range]
            unfold bytesAt keysBits
            rw [List.take_add_one, HSL.out, Option.toList_some, List.foldl_append]
            rfl
          · exact List.nodup_cons.2 ⟨fun hm => by have := HDL.out D hm; omega, HAT.out.nodup⟩
          · intro D' hD'
            rcases List.mem_cons.1 hD' with rfl | h
            · exact ⟨by omega, HKD.out⟩
            · exact ⟨(HAT.out.marks D' h).1, HM2.out D' h⟩
        · simp [intOf]; omega
      case stop =>
        rintro D c pre W _ _ h _
        exact h.elim
    · obtain rfl : j = l0.length := by omega
      have hcb := blk_cell1 HAT.out.box 0 (v := .slice (some ⟨w.heap.size, 0, none⟩) (N + 1) (N + 1)) rfl
      have hcb1 := hcb.1
      clear hcb
      gi_wp2
      refine leavesMarks Ds W HAT.out.nodup (fun D hD => (HAT.out.marks D hD).2) (fun W' hs => ?_)
      have hnc : ∀ D ∈ Ds, ∃ o : Obj, W.heap[D]? = some o ∧ o.isCells = false := fun D hD => ⟨_, (HAT.out.marks D hD).2, rfl⟩
      refine ⟨_, results_tmp2 rfl _ _ _, _, rfl, ?_, HAT.out.below.trans (hs.below (fun D hD => by have := (HAT.out.marks D hD).1; omega))⟩
      have e : buildBytes l0 b = bytesAt N k l0 l0.length := by
        unfold buildBytes bytesAt
        rw [HBN.out, HPF.out, List.take_length]
      rw [e]
      have h := R_of_blk (base := w.heap.size) (hs.heap hnc HAT.out.row rfl) (Nat.le_refl _) (by rw [bytesAt_length]; omega)
      rw [bytesAt_length] at h
      exact h
def filter_Build.f (l0 : List ByteArray) (a1 : Int) : Option (List Int × Int) := if l0.all (fun s => decide (s.size ≤ 140737488351232)) = true then some (buildOf l0 a1) else none
set_option maxHeartbeats 4000000 in
set_option maxRecDepth 100000 in
theorem filter_Build.calls (A0 : Option Addr) (c0 : Nat) (l0 : List ByteArray) (a1 : Int) (r1 : List Int) (r2 : Int) (w : World) (hr0 : Kd.C Kd.string w A0 l0.length l0) (hc0 : l0.length ≤ c0) (h : filter_Build.f l0 a1 = some (r1, r2)) :
    Calls Try.prog 8 #[.slice A0 l0.length c0, .int .i64 a1] w fun e w' => ∃ v0_ : Value, e = .returned (.tuple #[v0_, .int .i64 r2]) ∧ Kd.R (Kd.int .u8) 5 w' w.heap.size (fun _ => True) v0_ r1 ∧ Below w.heap.size w w' := by
  unfold filter_Build.f at h
  by_cases hall : l0.all (fun s => decide (s.size ≤ 140737488351232)) = true
  rotate_left
  · rw [if_neg hall] at h; cases h
  rw [if_pos hall] at h
  have h := Option.some.inj h
  unfold buildOf at h
  have hks : ∀ s ∈ l0, s.size ≤ 140737488351232 := fun s hs => of_decide_eq_true (List.all_eq_true.1 hall s hs)
  by_cases hb : a1 < 1 ∨ a1 > 32
  · rw [if_pos hb] at h
    obtain ⟨rfl, rfl⟩ := Prod.mk.inj h
    have hbb : (decide (a1 < 1) || decide (32 < a1)) = true := by simpa using hb
    have hb1 : decide (a1 < 1) = true ∨ (decide (a1 < 1) = false ∧ decide (32 < a1) = true) := by
      rcases hb with hb | hb
      · exact .inl (decide_eq_true hb)
      · exact .inr ⟨decide_eq_false (by omega), decide_eq_true hb⟩
    clear hr0 h hks hall hb hbb
    rcases hb1 with hb1 | ⟨hb1, hb2⟩
    all_goals
      go_enter Try.func8, Try.ntmps8
      go_wp2
      go_ret2
      exact ⟨_, rfl, Kd.R_nil _ _ _ _ _, Below.refl _ _⟩
  · rw [if_neg hb] at h
    by_cases hn : l0.length > 65536
    · rw [if_pos hn] at h
      obtain ⟨rfl, rfl⟩ := Prod.mk.inj h
      have hb1 : decide (a1 < 1) = false := decide_eq_false (by omega)
      have hb2 : decide (32 < a1) = false := decide_eq_false (by omega)
      have hn1 : decide (65536 < (l0.length : Int)) = true := decide_eq_true (by omega)
      have hn2 : decide (65536 < l0.length) = true := decide_eq_true (by omega)
      clear hr0 h hks hall hb hn
      go_enter Try.func8, Try.ntmps8
      go_wp2
      go_ret2
      exact ⟨_, rfl, Kd.R_nil _ _ _ _ _, Below.refl _ _⟩
    · rw [if_neg hn] at h
      obtain ⟨rfl, rfl⟩ := Prod.mk.inj h
      exact build_core A0 c0 l0 a1 (by omega) (by omega) (by omega) hks w hr0 hc0
end Go.Proofs.Ytifoofgdfaaaoaa.P
