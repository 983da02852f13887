/- Contracts proved by hand: pick.Next. -/
import Derived.Test.YtdibolblgchpdaaRH9
import Derived.Test.YtdibolblgchpdaaRPL0b
import Derived.Test.YtdibolblgchpdaaRPSr
namespace Go.Proofs.Ytdibolblgchpdaa.P
open Go.RowKit Go.Proofs.YtdibolblgchpdaaW.PrintWords Go.Proofs.YtdibolblgchpdaaW.PrintLast Go.Proofs.YtdibolblgchpdaaW.PrintMore
attribute [local go_sem] Oper.semAt_some
set_option linter.unusedVariables false
set_option linter.unusedSimpArgs false
def metF (ls : List (List S44)) (n : Nat) : List S44 := meetF (lvl ls ((n : Int) + 1)) (spanA (chosenF ls n)) (spanB (chosenF ls n))
def ats (n : Int) (l : List S44) : List S63 := l.map fun t => ⟨n, t.f0⟩
def botF (ls : List (List S44)) (n : Nat) : Bool := (ls.drop (n + 2)).all fun l => (meetF l (spanA (chosenF ls n ++ metF ls n)) (spanB (chosenF ls n ++ metF ls n))).length == 0
def jobF (ls : List (List S44)) (n : Nat) : S33 := ⟨n, ats n (chosenF ls n) ++ ats ((n : Int) + 1) (metF ls n), botF ls n⟩
/-- Tables read at a row are not read at a small block. -/
theorem C44_ne {W : World} {A : Option Addr} {l : List S44} {B t : Nat} {cs : Array Value} {fz : Nat × Nat} (h : Kd.C k44 W A l.length l) (hb : W.heap[B]? = some (.cells cs t fz)) (hs : cs.size ≤ 4) {W' : World}
  (hk : ∀ k, k < W.heap.size → k ≠ B → W'.heap[k]? = W.heap[k]?) : Kd.C k44 W' A l.length l := by
 refine ⟨h.1, h.2.1, fun hp => ?_⟩
 obtain ⟨ad, e, hr⟩ := h.2.2 hp
 refine ⟨ad, e, fun j p hj => ?_⟩
 obtain ⟨c, hl, hK, hc⟩ := hr j p hj
 refine ⟨c, hl, ?_, fun i u hu => ?_⟩
 ·obtain rfl := k44_open hK
  exact k44_mk W' p
 ·obtain rfl := k44_open hK
  have h4 := hc 4 (.string p.f4) rfl
  have hi := hc i u hu
  have hbk : ∀ n, (ad.add n).block = ad.block := fun n => by unfold Addr.add; split <;> rfl
  have hne : ad.block ≠ B := by
   intro hbB
   have h5 := h4
   have ha : ad.add (j * 5 + 4) = ⟨ad.block, ad.off + (j * 5 + 4), none⟩ := by unfold Addr.add; rw [if_neg (by omega)]
   have h6 : W.cell? (ad.add (j * 5 + 4)) = some (.string p.f4) := h4
   rw [ha, hbB] at h6
   unfold World.cell? at h6
   rw [hb] at h6
   simp only [Option.isSome_none, Bool.false_eq_true, if_false] at h6
   have := (Array.getElem?_eq_some_iff.1 h6).1
   omega
  have hlt := World.block_lt_of_cell? W _ hi
  refine (World.cell?_of_block ?_).trans hi
  rw [hbk] at hlt ⊢
  exact hk _ hlt hne
theorem C_two {W : World} {g t : Nat} {A1 A2 : Option Addr} {c1 c2 : Nat} (x1 x2 : List S44) (h : W.heap[g]? = some (.cells #[.slice A1 x1.length c1, .slice A2 x2.length c2] t (0, 0))) (h1 : Kd.C k44 W A1 x1.length x1) (l1 : x1.length ≤ c1) (h2 : Kd.C k44 W A2 x2.length x2) (l2 : x2.length ≤ c2) :
  Kd.C (Kd.slice 44 k44) W (some ⟨g, 0, none⟩) 2 [x1, x2] := by
 refine ⟨rfl, by decide, fun _ => ⟨_, rfl, fun j p hj => ?_⟩⟩
 match j, hj with
 | 0, hj =>
  obtain rfl : x1 = p := by simpa using hj
  refine ⟨[.slice A1 x1.length c1], rfl, ⟨A1, c1, rfl, l1, h1⟩, fun i u hu => ?_⟩
  match i, hu with
  | 0, hu => rw [add_zero_]; exact (blkc h 0 (by simpa using hu)).1
  | i + 1, hu => simp at hu
 | 1, hj =>
  obtain rfl : x2 = p := by simpa using hj
  refine ⟨[.slice A2 x2.length c2], rfl, ⟨A2, c2, rfl, l2, h2⟩, fun i u hu => ?_⟩
  match i, hu with
  | 0, hu => rw [add_zero_]; exact (blkc h 1 (by simpa using hu)).1
  | i + 1, hu => simp at hu
 | j + 2, hj => simp at hj
def w3 (w : World) (A : Option Addr) (n c : Nat) (o0 o1 o2 o3 o4 o5 o6 : Int) : World := ((w.alloc (.cells #[.slice A n c] 24)).alloc (.cells #[.int .i64 o0, .int .i64 o1, .int .i64 o2, .int .i64 o3, .int .i64 o4, .int .i64 o5, .int .i64 o6] 28)).alloc (.cells #[.int .i64 0, .slice none 0 0, .bool false] 33)
theorem w3_facts (w : World) (A : Option Addr) (n c : Nat) (o0 o1 o2 o3 o4 o5 o6 : Int) {W : World} (hb : Below (w3 w A n c o0 o1 o2 o3 o4 o5 o6).heap.size (w3 w A n c o0 o1 o2 o3 o4 o5 o6) W) :
  W.heap[w.heap.size]? = some (.cells #[.slice A n c] 24 (0, 0)) ∧ W.heap[w.heap.size + 1]? = some (.cells #[.int .i64 o0, .int .i64 o1, .int .i64 o2, .int .i64 o3, .int .i64 o4, .int .i64 o5, .int .i64 o6] 28 (0, 0)) ∧ W.heap[w.heap.size + 1 + 1]? = some (.cells #[.int .i64 0, .slice none 0 0, .bool false] 33 (0, 0)) ∧ Below w.heap.size w W ∧ w.heap.size + 3 ≤ W.heap.size := by
 have hsz : (w3 w A n c o0 o1 o2 o3 o4 o5 o6).heap.size = w.heap.size + 3 := by unfold w3; simp
 have h0 : Below w.heap.size w (w3 w A n c o0 o1 o2 o3 o4 o5 o6) := below_alloc (below_alloc (below_alloc (Below.refl _ _) _) _) _
 have e1 := World.alloc_heap_new w (.cells #[.slice A n c] 24)
 have e2 := World.alloc_heap_new (w.alloc (.cells #[.slice A n c] 24)) (.cells #[.int .i64 o0, .int .i64 o1, .int .i64 o2, .int .i64 o3, .int .i64 o4, .int .i64 o5, .int .i64 o6] 28)
 have e3 := World.alloc_heap_new ((w.alloc (.cells #[.slice A n c] 24)).alloc (.cells #[.int .i64 o0, .int .i64 o1, .int .i64 o2, .int .i64 o3, .int .i64 o4, .int .i64 o5, .int .i64 o6] 28)) (.cells #[.int .i64 0, .slice none 0 0, .bool false] 33)
 rw [World.size_alloc] at e2
 rw [World.size_alloc, World.size_alloc] at e3
 refine ⟨(hb.block _ (by omega)).trans ((Below.heap_alloc _ _ _ (by simp; omega)).trans ((Below.heap_alloc _ _ _ (by simp)).trans e1)), (hb.block _ (by omega)).trans ((Below.heap_alloc _ _ _ (by simp)).trans e2), (hb.block _ (by omega)).trans e3, h0.trans (hb.mono (by omega)), by have := hb.size; omega⟩
set_option maxHeartbeats 20000000 in
set_option maxRecDepth 100000 in
theorem next_no1 (A : Option Addr) (c : Nat) (ls : List (List S44)) (o0 o1 o2 o3 o4 o5 o6 : Int) (w : World) (hm : pick_may.f o0 o1 o2 o3 o4 o5 o6 = some false) :
  Calls Try.prog 9 #[.agg #[.slice A ls.length c], .agg #[.int .i64 o0, .int .i64 o1, .int .i64 o2, .int .i64 o3, .int .i64 o4, .int .i64 o5, .int .i64 o6]] w fun e w' => e = .returned (.tuple #[.agg #[.int .i64 0, .slice none 0 0, .bool false], .bool false]) ∧ Below w.heap.size w w' := by
 have HM := Aside0.mk hm
 clear hm
 go_enter Try.func9, Try.ntmps9
 go_wp2_with (go_at_call 30; refine (pick_may.calls _ _ _ _ _ _ _ false _ HM.out).mono ?_; rintro e w1 ⟨rfl, hb⟩; obtain ⟨b2, b3, b4, hB, hS⟩ := w3_facts w A ls.length c o0 o1 o2 o3 o4 o5 o6 hb; obtain ⟨x0, z0⟩ := blkc b4 0 rfl; obtain ⟨x1, z1⟩ := blkc b4 1 rfl; obtain ⟨x2, z2⟩ := blkc b4 2 rfl; have HB := Aside0.mk hB; have B4 := Aside0.mk b4; clear b2 b3 b4 hB hb hS)
 refine bodyPost_ret (results_ct rfl _ _ (w.heap.size + 1 + 1) 33 #[.int .i64 0, .slice none 0 0, .bool false] (0, 0) _ rfl (blk_put (blk_put (blk_put B4.out 0 _ rfl) 1 _ rfl) 2 _ rfl) Try.underlying33 rfl (by kernel_rfl)) rfl ?_
 exact ⟨rfl, below_set (below_set (below_set HB.out (by omega)) (by omega)) (by omega)⟩
set_option maxHeartbeats 20000000 in
set_option maxRecDepth 100000 in
theorem next_no2 (A : Option Addr) (c : Nat) (ls : List (List S44)) (o0 o1 o2 o3 o4 o5 o6 : Int) (w : World) (hC : Kd.C (Kd.slice 44 k44) w A ls.length ls) (hc : ls.length ≤ c) (hm : pick_may.f o0 o1 o2 o3 o4 o5 o6 = some true) (hr : pick_right.f ls = some false) :
  Calls Try.prog 9 #[.agg #[.slice A ls.length c], .agg #[.int .i64 o0, .int .i64 o1, .int .i64 o2, .int .i64 o3, .int .i64 o4, .int .i64 o5, .int .i64 o6]] w fun e w' => e = .returned (.tuple #[.agg #[.int .i64 0, .slice none 0 0, .bool false], .bool false]) ∧ Below w.heap.size w w' := by
 have HM := Aside0.mk hm
 have HR := Aside0.mk hr
 have HC := Aside0.mk hC
 clear hm hr hC
 go_enter Try.func9, Try.ntmps9
 go_wp2_with (first | (go_at_call 30; refine (pick_may.calls _ _ _ _ _ _ _ true _ HM.out).mono ?_; rintro e w1 ⟨rfl, hb1⟩; obtain ⟨b2, b3, b4, hB, hS⟩ := w3_facts w A ls.length c o0 o1 o2 o3 o4 o5 o6 hb1; obtain ⟨p1, q1⟩ := blkc b2 0 rfl; have t10 := (blkc b3 0 rfl).1; have t11 := (blkc b3 1 rfl).1; have t12 := (blkc b3 2 rfl).1; have t13 := (blkc b3 3 rfl).1; have t14 := (blkc b3 4 rfl).1; have t15 := (blkc b3 5 rfl).1; have t16 := (blkc b3 6 rfl).1; have HB1 := Aside0.mk hB; have BW1 := Aside0.mk hb1; clear b2 b3 b4 hB hS q1; clear hb1) | (go_at_call 31; refine (pick_right.calls A c ls false _ (Kd.C_below HC.out HB1.out) hc HR.out).mono ?_; rintro e w2 ⟨rfl, hb⟩; have hb2 := BW1.out.trans (hb.mono BW1.out.size); clear hb; obtain ⟨b2, b3, b4, hB, hS⟩ := w3_facts w A ls.length c o0 o1 o2 o3 o4 o5 o6 hb2; obtain ⟨x0, z0⟩ := blkc b4 0 rfl; obtain ⟨x1, z1⟩ := blkc b4 1 rfl; obtain ⟨x2, z2⟩ := blkc b4 2 rfl; have HB := Aside0.mk hB; have B4 := Aside0.mk b4; clear b2 b3 b4 hB hS; clear hb2))
 refine bodyPost_ret (results_ct rfl _ _ (w.heap.size + 1 + 1) 33 #[.int .i64 0, .slice none 0 0, .bool false] (0, 0) _ rfl (blk_put (blk_put (blk_put B4.out 0 _ rfl) 1 _ rfl) 2 _ rfl) Try.underlying33 rfl (by kernel_rfl)) rfl ?_
 exact ⟨rfl, below_set (below_set (below_set HB.out (by omega)) (by omega)) (by omega)⟩
set_option maxHeartbeats 20000000 in
set_option maxRecDepth 100000 in
theorem next_no3 (k : Nat) (n0 : Int) (A : Option Addr) (c : Nat) (ls : List (List S44)) (o0 o1 o2 o3 o4 o5 o6 : Int) (w : World) (hC : Kd.C (Kd.slice 44 k44) w A ls.length ls) (hc : ls.length ≤ c) (hm : pick_may.f o0 o1 o2 o3 o4 o5 o6 = some true) (hr : pick_right.f ls = some true) (hf : pick_full.f k ls o0 o1 o2 o3 o4 o5 o6 = some (n0, false)) :
  Calls Try.prog 9 #[.agg #[.slice A ls.length c], .agg #[.int .i64 o0, .int .i64 o1, .int .i64 o2, .int .i64 o3, .int .i64 o4, .int .i64 o5, .int .i64 o6]] w fun e w' => e = .returned (.tuple #[.agg #[.int .i64 0, .slice none 0 0, .bool false], .bool false]) ∧ Below w.heap.size w w' := by
 have HM := Aside0.mk hm
 have HR := Aside0.mk hr
 have HC := Aside0.mk hC
 have HF := Aside0.mk hf
 clear hm hr hC hf
 go_enter Try.func9, Try.ntmps9
 go_wp2_with (first | (go_at_call 30; refine (pick_may.calls _ _ _ _ _ _ _ true _ HM.out).mono ?_; rintro e w1 ⟨rfl, hb1⟩; obtain ⟨b2, b3, b4, hB, hS⟩ := w3_facts w A ls.length c o0 o1 o2 o3 o4 o5 o6 hb1; obtain ⟨p1, q1⟩ := blkc b2 0 rfl; have t10 := (blkc b3 0 rfl).1; have t11 := (blkc b3 1 rfl).1; have t12 := (blkc b3 2 rfl).1; have t13 := (blkc b3 3 rfl).1; have t14 := (blkc b3 4 rfl).1; have t15 := (blkc b3 5 rfl).1; have t16 := (blkc b3 6 rfl).1; have HB1 := Aside0.mk hB; have BW1 := Aside0.mk hb1; clear b2 b3 b4 hB hS q1; clear hb1) | (go_at_call 31; refine (pick_right.calls A c ls true _ (Kd.C_below HC.out HB1.out) hc HR.out).mono ?_; rintro e w2 ⟨rfl, hb⟩; have hb2 := BW1.out.trans (hb.mono BW1.out.size); clear hb; obtain ⟨b2, b3, b4, hB, hS⟩ := w3_facts w A ls.length c o0 o1 o2 o3 o4 o5 o6 hb2; obtain ⟨p2, q2⟩ := blkc b2 0 rfl; have t20 := (blkc b3 0 rfl).1; have t21 := (blkc b3 1 rfl).1; have t22 := (blkc b3 2 rfl).1; have t23 := (blkc b3 3 rfl).1; have t24 := (blkc b3 4 rfl).1; have t25 := (blkc b3 5 rfl).1; have t26 := (blkc b3 6 rfl).1; have HB2 := Aside0.mk hB; have BW2 := Aside0.mk hb2; clear b2 b3 b4 hB hS q2; clear hb2) | (go_at_call 32; refine (pick_full.calls k A c ls o0 o1 o2 o3 o4 o5 o6 n0 false _ (Kd.C_below HC.out HB2.out) hc HF.out).mono ?_; rintro e w3 ⟨rfl, hb⟩; have hb3 := BW2.out.trans (hb.mono BW2.out.size); clear hb; obtain ⟨b2, b3, b4, hB, hS⟩ := w3_facts w A ls.length c o0 o1 o2 o3 o4 o5 o6 hb3; obtain ⟨x0, z0⟩ := blkc b4 0 rfl; obtain ⟨x1, z1⟩ := blkc b4 1 rfl; obtain ⟨x2, z2⟩ := blkc b4 2 rfl; have HB := Aside0.mk hB; have B4 := Aside0.mk b4; clear b2 b3 b4 hB hS; clear hb3))
 refine bodyPost_ret (results_ct rfl _ _ (w.heap.size + 1 + 1) 33 #[.int .i64 0, .slice none 0 0, .bool false] (0, 0) _ rfl (blk_put (blk_put (blk_put B4.out 0 _ rfl) 1 _ rfl) 2 _ rfl) Try.underlying33 rfl (by kernel_rfl)) rfl ?_
 exact ⟨rfl, below_set (below_set (below_set HB.out (by omega)) (by omega)) (by omega)⟩
/-- The state of Next behind the choice: the job's block, its inputs, and all else as it was at W0. -/
def NxAt (w W0 : World) (B n : Nat) (u : Value) (b : Bool) (inp : List S63) (W : World) : Prop :=
 W.heap[B]? = some (.cells #[.int .i64 n, u, .bool b] 33 (0, 0)) ∧ Kd.R k63 63 W W0.heap.size (fun _ => True) u inp ∧ (∀ k, k < W0.heap.size → k ≠ B → W.heap[k]? = W0.heap[k]?) ∧ Below w.heap.size w W ∧ W0.heap.size ≤ W.heap.size
theorem NxAt.below {w W0 W W' : World} {B n : Nat} {u : Value} {b : Bool} {inp : List S63} (h : NxAt w W0 B n u b inp W) (hb : Below W.heap.size W W') : NxAt w W0 B n u b inp W' :=
 ⟨blk_below h.1 hb, Kd.R_below h.2.1 hb, fun k hk hne => (hb.block k (Nat.lt_of_lt_of_le hk h.2.2.2.2)).trans (h.2.2.1 k hk hne), h.2.2.2.1.trans (hb.mono h.2.2.2.1.size), Nat.le_trans h.2.2.2.2 hb.size⟩
theorem NxAt.step {w W0 W w1 : World} {B n : Nat} {u u1 : Value} {b : Bool} {inp inp1 : List S63} (h : NxAt w W0 B n u b inp W) (hB : B < W0.heap.size) (hw : w.heap.size ≤ B) (hb : Below W0.heap.size W w1) (hR : Kd.R k63 63 w1 W0.heap.size (fun _ => True) u1 inp1) :
  w1.heap[B]? = some (.cells #[.int .i64 n, u, .bool b] 33 (0, 0)) ∧ NxAt w W0 B n u1 b inp1 (w1.setCell ⟨B, 1, none⟩ u1) := by
 have h1 := (hb.block B hB).trans h.1
 refine ⟨h1, blk_put h1 1 _ rfl, ?_, fun k hk hne => (Below.heap_setCell _ _ _ _ hne).trans ((hb.block k hk).trans (h.2.2.1 k hk hne)), ?_, ?_⟩
 ·exact Kd.R_mono (Kd.R_far (Kd.R_types hR h1 (by decide)) (fun _ hk => hk.2) _) (fun _ _ => trivial)
 ·exact below_set (h.2.2.2.1.trans (hb.mono (by omega))) hw
 ·have := hb.size
  have := h.2.2.2.2
  simp only [World.setCell, Array.size_modify]
  omega
theorem NxAt.put2 {w W0 W : World} {B n : Nat} {u : Value} {b : Bool} {inp : List S63} (h : NxAt w W0 B n u b inp W) (hw : w.heap.size ≤ B) (b1 : Bool) : NxAt w W0 B n u b1 inp (W.setCell ⟨B, 2, none⟩ (.bool b1)) := by
 refine ⟨blk_put h.1 2 _ rfl, ?_, fun k hk hne => (Below.heap_setCell _ _ _ _ hne).trans (h.2.2.1 k hk hne), below_set h.2.2.2.1 hw, ?_⟩
 ·exact Kd.R_mono (Kd.R_far (Kd.R_types h.2.1 h.1 (by decide)) (fun _ hk => hk.2) _) (fun _ _ => trivial)
 ·have := h.2.2.2.2
  simp only [World.setCell, Array.size_modify]
  omega
theorem NxAt.C44 {w W0 W : World} {B n : Nat} {u : Value} {b : Bool} {inp : List S63} (h : NxAt w W0 B n u b inp W) {A : Option Addr} {l : List S44} {cs : Array Value} {t : Nat} {fz : Nat × Nat} (hC : Kd.C k44 W0 A l.length l) (h8 : W0.heap[B]? = some (.cells cs t fz)) (hs : cs.size ≤ 4) : Kd.C k44 W A l.length l :=
 C44_ne hC h8 hs h.2.2.1
theorem meet_len (l : List S44) (a b : ByteArray) : (meetF l a b).length ≤ l.length := List.length_filter_le _ _
theorem info63 : (Try.prog.info? 63).map (fun i => (i.zero, i.size, i.bytes)) = some (some (.agg #[.int .i64 0, .int .i64 0]), 2, 16) := by kernel_rfl
theorem ats_take (n : Int) (l : List S44) (i : Nat) (h : i < l.length) : ats n (l.take (i + 1)) = ats n (l.take i) ++ [⟨n, (rd_T44 l (i : Int)).f0⟩] := by
 rw [get44 l i h, List.take_add_one, List.getElem?_eq_getElem h]
 unfold ats
 rw [List.map_append]
 rfl
theorem ats_len (n : Int) (l : List S44) : (ats n l).length = l.length := by simp [ats]
theorem rd_lvl (ls : List (List S44)) (d : Nat) : rd_L3 ls (d : Int) = lvl ls (d : Int) := by
 unfold rd_L3 lvl
 rw [if_neg (by omega)]
theorem all_start (f : List S44 → Bool) (ls : List (List S44)) (m : Nat) : true = ((ls.take m).drop m).all f := by
 rw [List.drop_eq_nil_of_le (by rw [List.length_take]; exact Nat.min_le_left _ _)]
 rfl
def emptyB (a b : ByteArray) (l : List S44) : Bool := (meetF l a b).length == 0
theorem all_step (f : List S44 → Bool) (ls : List (List S44)) (m d : Nat) (hm : m ≤ d) (hd : d < ls.length) : ((ls.take (d + 1)).drop m).all f = (((ls.take d).drop m).all f && f (rd_L3 ls (d : Int))) := by
 have e : rd_L3 ls (d : Int) = ls[d] := by simp only [rd_L3, Int.toNat_natCast]; simp [hd]
 rw [e, List.take_add_one, List.getElem?_eq_getElem hd, List.drop_append_of_le_length (by rw [List.length_take]; omega)]
 simp
set_option maxHeartbeats 8000000 in
set_option maxRecDepth 100000 in
theorem next_yes (k n : Nat) (A : Option Addr) (c : Nat) (ls : List (List S44)) (o0 o1 o2 o3 o4 o5 o6 : Int) (w : World) (hC : Kd.C (Kd.slice 44 k44) w A ls.length ls) (hc : ls.length ≤ c) (hm : pick_may.f o0 o1 o2 o3 o4 o5 o6 = some true) (hr : pick_right.f ls = some true) (hf : pick_full.f k ls o0 o1 o2 o3 o4 o5 o6 = some ((n : Int), true)) (hn : n ≤ 5) (hpos : 0 < (lvl ls n).length) (hcap : ∀ i : Int, (lvl ls i).length ≤ 1024) :
  Calls Try.prog 9 #[.agg #[.slice A ls.length c], .agg #[.int .i64 o0, .int .i64 o1, .int .i64 o2, .int .i64 o3, .int .i64 o4, .int .i64 o5, .int .i64 o6]] w fun e w' => ∃ v, e = .returned (.tuple #[.agg #[.int .i64 n, v, .bool (botF ls n)], .bool true]) ∧ Kd.R k63 63 w' w.heap.size (fun _ => True) v (jobF ls n).f1 ∧ Below w.heap.size w w' := by
 have HM := Aside0.mk hm
 have HR := Aside0.mk hr
 have HC := Aside0.mk hC
 have HF := Aside0.mk hf
 have HCAP := Aside0.mk hcap
 have HPOS := Aside0.mk hpos
 have hls : ls.length ≤ 9223372036854775807 := hC.2.1
 have hchp : 0 < (chosenF ls n).length := by unfold chosenF; split <;> rename_i h0 <;> simp_all
 have hchc : (chosenF ls n).length ≤ 1024 := by unfold chosenF; split; exact hcap 0; simp
 have hmec : (metF ls n).length ≤ 1024 := Nat.le_trans (meet_len _ _ _) (hcap _)
 obtain ⟨ch, hch⟩ : ∃ x, chosenF ls n = x := ⟨_, rfl⟩
 obtain ⟨me, hme⟩ : ∃ x, metF ls n = x := ⟨_, rfl⟩
 have HCH := Aside0.mk hch
 have HME := Aside0.mk hme
 rw [hch] at hchp hchc
 rw [hme] at hmec
 clear hm hr hC hf hcap hpos hch hme
 go_enter Try.func9, Try.ntmps9
 go_wp2_with (first
  | (go_at_call 30; refine (pick_may.calls _ _ _ _ _ _ _ true _ HM.out).mono ?_; rintro e w1 ⟨rfl, hb1⟩; obtain ⟨b2, b3, b4, hB, hS⟩ := w3_facts w A ls.length c o0 o1 o2 o3 o4 o5 o6 hb1; obtain ⟨p1, q1⟩ := blkc b2 0 rfl; have t10 := (blkc b3 0 rfl).1; have t11 := (blkc b3 1 rfl).1; have t12 := (blkc b3 2 rfl).1; have t13 := (blkc b3 3 rfl).1; have t14 := (blkc b3 4 rfl).1; have t15 := (blkc b3 5 rfl).1; have t16 := (blkc b3 6 rfl).1; have HB1 := Aside0.mk hB; have BW1 := Aside0.mk hb1; clear b2 b3 b4 hB hS q1; clear hb1)
  | (go_at_call 31; refine (pick_right.calls A c ls true _ (Kd.C_below HC.out HB1.out) hc HR.out).mono ?_; rintro e w2 ⟨rfl, hb⟩; have hb2 := BW1.out.trans (hb.mono BW1.out.size); clear hb; obtain ⟨b2, b3, b4, hB, hS⟩ := w3_facts w A ls.length c o0 o1 o2 o3 o4 o5 o6 hb2; obtain ⟨p2, q2⟩ := blkc b2 0 rfl; have t20 := (blkc b3 0 rfl).1; have t21 := (blkc b3 1 rfl).1; have t22 := (blkc b3 2 rfl).1; have t23 := (blkc b3 3 rfl).1; have t24 := (blkc b3 4 rfl).1; have t25 := (blkc b3 5 rfl).1; have t26 := (blkc b3 6 rfl).1; have HB2 := Aside0.mk hB; have BW2 := Aside0.mk hb2; clear b2 b3 b4 hB hS q2; clear hb2)
  | (go_at_call 32; refine (pick_full.calls k A c ls o0 o1 o2 o3 o4 o5 o6 n true _ (Kd.C_below HC.out HB2.out) hc HF.out).mono ?_; rintro e w3 ⟨rfl, hb⟩; have hb3 := BW2.out.trans (hb.mono BW2.out.size); clear hb; obtain ⟨b2, b3, b4, hB, hS⟩ := w3_facts w A ls.length c o0 o1 o2 o3 o4 o5 o6 hb3; obtain ⟨p3, q3⟩ := blkc b2 0 rfl; have HB3 := Aside0.mk hB; have B23 := Aside0.mk b2; have B43 := Aside0.mk b4; have hS3 := hS; have p3b := below_cell (below_alloc (Below.refl _ _) (.cells #[.int .i64 n, .slice none 0 0, .bool true] 33)) p3; clear b2 b3 b4 hB hS q3 hb3)
  | (go_at_call 33; refine (chosen_calls A c ls n _ (Kd.C_below HC.out (below_alloc HB3.out (.cells #[.int .i64 n, .slice none 0 0, .bool true] 33))) hc (fun _ => HPOS.out) (Nat.le_trans (HCAP.out _) (by decide))).mono ?_; rintro e w4 ⟨A4, c4, rfl, hl4, hC4, hb⟩; have HL4 := Aside0.mk hl4; rw [HCH.out] at hC4 HL4 ⊢; have HC4 := Aside0.mk hC4; have BJ4 := Aside0.mk (blk_below (World.alloc_heap_new w3 (.cells #[.int .i64 n, .slice none 0 0, .bool true] 33)) hb); have B24 := Aside0.mk (blk_below (blk_alloc B23.out (.cells #[.int .i64 n, .slice none 0 0, .bool true] 33)) hb); have B44 := Aside0.mk (blk_below (blk_alloc B43.out (.cells #[.int .i64 n, .slice none 0 0, .bool true] 33)) hb); have HB4 := Aside0.mk ((below_alloc HB3.out (.cells #[.int .i64 n, .slice none 0 0, .bool true] 33)).trans (hb.mono (below_alloc HB3.out (.cells #[.int .i64 n, .slice none 0 0, .bool true] 33)).size)); have hS4 : w3.heap.size + 1 ≤ w4.heap.size := (by have := hb.size; rw [World.size_alloc] at this; exact this); clear hl4 hC4 hb p3 p3b)
  | (go_at_call 34; refine (span_calls A4 c4 ch _ HC4.out hchp (Nat.le_trans hchc (by decide))).mono ?_; rintro e w5 ⟨rfl, hb⟩; have HC5 := Aside0.mk (Kd.C_below HC4.out hb); have BJ5 := Aside0.mk (blk_below BJ4.out hb); have B25 := Aside0.mk (blk_below B24.out hb); have p5 := (blkc B25.out 0 rfl).1; have B45 := Aside0.mk (blk_below B44.out hb); have HB5 := Aside0.mk (HB4.out.trans (hb.mono HB4.out.size)); have hS5 : w3.heap.size + 1 ≤ w5.heap.size := Nat.le_trans hS4 hb.size; clear hb)
  | (go_at_call 35; refine (level_calls A c ls ((n : Int) + 1) _ (Kd.C_below HC.out HB5.out) hc).mono ?_; rintro e w6 ⟨A6, c6, rfl, hl6, hC6, hb⟩; have HL6 := Aside0.mk hl6; have HC6 := Aside0.mk hC6; have HX6 := Aside0.mk (Kd.C_below HC5.out hb); have BJ6 := Aside0.mk (blk_below BJ5.out hb); have B26 := Aside0.mk (blk_below B25.out hb); have B46 := Aside0.mk (blk_below B45.out hb); have HB6 := Aside0.mk (HB5.out.trans (hb.mono HB5.out.size)); have hS6 : w3.heap.size + 1 ≤ w6.heap.size := Nat.le_trans hS5 hb.size; clear hb hl6 hC6)
  | (go_at_call 24; refine (meet_calls A6 c6 (lvl ls ((n : Int) + 1)) (spanA ch) (spanB ch) _ HC6.out HL6.out (Nat.le_trans (Nat.mul_le_mul_right 56 (HCAP.out _)) (by decide))).mono ?_; rintro e w7 ⟨A7, c7, rfl, hl7, hC7, hb⟩; have hme : meetF (lvl ls ((n : Int) + 1)) (spanA ch) (spanB ch) = me := (by rw [← HCH.out]; exact HME.out); rw [hme] at hl7 hC7 ⊢; clear hme; have HL7 := Aside0.mk hl7; have HC7 := Aside0.mk hC7; have HX7 := Aside0.mk (Kd.C_below HX6.out hb); have BJ7 := Aside0.mk (blk_below BJ6.out hb); have B27 := Aside0.mk (blk_below B26.out hb); have B47 := Aside0.mk (blk_below B46.out hb); have HB7 := Aside0.mk (HB6.out.trans (hb.mono HB6.out.size)); have hS7 : w3.heap.size + 1 ≤ w7.heap.size := Nat.le_trans hS6 hb.size; clear hb hl7 hC7))
 have hB3 : w3.heap.size < w7.heap.size := by omega
 have hw3 : w.heap.size ≤ w3.heap.size := by omega
 have NX := Aside0.mk (show NxAt w w7 w3.heap.size n (.slice none 0 0) true [] w7 from ⟨BJ7.out, Kd.R_nil _ _ _ _ _, fun _ _ _ => rfl, HB7.out, Nat.le_refl _⟩)
 clear hS4 hS5 hS6 HB1 HB2 BW1 BW2 HB3 HB4 HB5 HB6 B23 B24 B25 B26 B43 B44 B45 B46 BJ4 BJ5 BJ6 HC4 HC5 HC6 HL6 HX6 p1 p2 p5
 go_loopg [55] ch.length (fun kq v55 w' => ∃ (i : Nat) (u : Value), v55 = .int .i64 i ∧ i ≤ ch.length ∧ Aside0 (kq = ch.length - i) ∧ Aside0 (NxAt w w7 w3.heap.size n u true (ats (n : Int) (ch.take i)) w'))
 case atStart => exact ⟨0, _, rfl, Nat.zero_le _, ⟨rfl⟩, NX⟩
 case round =>
  clear NX
  obtain ⟨i, u, rfl, hi, HK, HN⟩ := hrel
  by_cases hlt : i < ch.length
  ·obtain ⟨k1, rfl⟩ : ∃ k1, gk = k1 + 1 := ⟨gk - 1, by have := HK.out; omega⟩
   have HK1 := Aside0.mk (show k1 = ch.length - (i + 1) by have := HK.out; omega)
   obtain ⟨ad, ea, x0, x1, x2, x3, x4⟩ := at_T44 (HN.out.C44 HX7.out BJ7.out (by simp)) (i : Int) (Int.natCast_nonneg _) (by omega)
   subst ea
   rw [Int.toNat_natCast] at x0 x1 x2 x3 x4
   have hat := ats_take (n : Int) ch i hlt
   obtain ⟨x, hx⟩ : ∃ x, rd_T44 ch (i : Int) = x := ⟨_, rfl⟩
   rw [hx] at x0 x1 x2 x3 x4 hat
   obtain ⟨z, hz⟩ : ∃ z, z = (ats (n : Int) (ch.take (i + 1))) := ⟨_, rfl⟩
   have HAT := Aside0.mk (show z = (ats (n : Int) (ch.take i)) ++ [⟨(n : Int), x.f0⟩] by rw [hz, hat]; try rw [List.append_assoc])
   have HZ := Aside0.mk hz
   clear hz
   obtain ⟨c8, z8⟩ := blkc HN.out.1 1 rfl
   have hle : w7.heap.size ≤ wr.heap.size := HN.out.2.2.2.2
   clear hx hat
   have c8a := below_cell (below_alloc (Below.refl _ _) (.cells #[.int .i64 x.f0, .int .i64 x.f1, .int .i64 x.f2, .string x.f3, .string x.f4] 44)) c8
   go_wp2_with ((with_reducible refine gate_builtin (b := .append) (xs := #[.tmp 60, .tmp 65]) rfl ?_); at_builtin; refine Kd.R_append k63 (w0 := wr) w7.heap.size rfl (.tmp 60) (.tmp 65) 31 63 (.agg #[.int .i64 0, .int .i64 0]) 16 rfl Try.underlying31 info63 rfl (by decide) (by decide) u (ats (n : Int) (ch.take i)) (⟨(n : Int), x.f0⟩ : S63) [.int .i64 (n : Int), .int .i64 x.f0] (fun _ => True) (fun _ => False) rfl (by first | (go_simp; done) | (go_simp; rfl)) ?aP (fun _ hk => hk.elim) ?aF ?aO ?aB ?aS ?aL ?_; (case aP => exact k63_mkM _ _ _ _); (case aF => exact (fun _ _ => trivial)); (case aO => exact Kd.R_alloc HN.out.2.1 _); (case aB => exact (below_alloc (Below.refl wr.heap.size wr) _).mono hle); (case aS => rw [World.size_alloc]; omega); (case aL => simp only [List.length_append, ats_len, List.length_take]; omega); intro u1 w8 ho hb hg hat; rw [← HAT.out] at ho; obtain ⟨Ax, cx, rfl⟩ := Kd.R_slice ho; obtain ⟨h1, h2⟩ := HN.out.step (by omega) (by omega) hb ho; obtain ⟨c9, z9⟩ := blkc h1 1 rfl; have HN1 := Aside0.mk h2; clear ho hb hg hat h1 h2)
   go_roundg k1
   case measure => omega
   case rel => exact ⟨i + 1, _, by first | rfl | (congr 1; omega) | (simp; done), hlt, HK1, ⟨by rw [← HZ.out]; exact HN1.out⟩⟩
  ·obtain rfl : i = ch.length := by omega
   rw [List.take_length] at HN
   go_wp2
   have NX := HN
   clear HN
   go_loopg [71] me.length (fun kq v71 w' => ∃ (i : Nat) (u : Value), v71 = .int .i64 i ∧ i ≤ me.length ∧ Aside0 (kq = me.length - i) ∧ Aside0 (NxAt w w7 w3.heap.size n u true (ats (n : Int) ch ++ ats ((n : Int) + 1) (me.take i)) w'))
   case atStart => exact ⟨0, _, rfl, Nat.zero_le _, ⟨rfl⟩, ⟨by simpa [ats] using NX.out⟩⟩
   case round =>
    clear NX HK
    obtain ⟨i, u, rfl, hi, HK, HN⟩ := hrel
    by_cases hlt : i < me.length
    ·obtain ⟨k1, rfl⟩ : ∃ k1, gk = k1 + 1 := ⟨gk - 1, by have := HK.out; omega⟩
     have HK1 := Aside0.mk (show k1 = me.length - (i + 1) by have := HK.out; omega)
     obtain ⟨ad, ea, x0, x1, x2, x3, x4⟩ := at_T44 (HN.out.C44 HC7.out BJ7.out (by simp)) (i : Int) (Int.natCast_nonneg _) (by omega)
     subst ea
     rw [Int.toNat_natCast] at x0 x1 x2 x3 x4
     have hat := ats_take ((n : Int) + 1) me i hlt
     obtain ⟨x, hx⟩ : ∃ x, rd_T44 me (i : Int) = x := ⟨_, rfl⟩
     rw [hx] at x0 x1 x2 x3 x4 hat
     obtain ⟨z, hz⟩ : ∃ z, z = (ats (n : Int) ch ++ ats ((n : Int) + 1) (me.take (i + 1))) := ⟨_, rfl⟩
     have HAT := Aside0.mk (show z = (ats (n : Int) ch ++ ats ((n : Int) + 1) (me.take i)) ++ [⟨((n : Int) + 1), x.f0⟩] by rw [hz, hat]; try rw [List.append_assoc])
     have HZ := Aside0.mk hz
     clear hz
     obtain ⟨c8, z8⟩ := blkc HN.out.1 1 rfl
     have hle : w7.heap.size ≤ wr.heap.size := HN.out.2.2.2.2
     clear hx hat
     have c8a := below_cell (below_alloc (Below.refl _ _) (.cells #[.int .i64 x.f0, .int .i64 x.f1, .int .i64 x.f2, .string x.f3, .string x.f4] 44)) c8
     go_wp2_with ((with_reducible refine gate_builtin (b := .append) (xs := #[.tmp 76, .tmp 82]) rfl ?_); at_builtin; refine Kd.R_append k63 (w0 := wr) w7.heap.size rfl (.tmp 76) (.tmp 82) 31 63 (.agg #[.int .i64 0, .int .i64 0]) 16 rfl Try.underlying31 info63 rfl (by decide) (by decide) u (ats (n : Int) ch ++ ats ((n : Int) + 1) (me.take i)) (⟨((n : Int) + 1), x.f0⟩ : S63) [.int .i64 ((n : Int) + 1), .int .i64 x.f0] (fun _ => True) (fun _ => False) rfl (by first | (go_simp; done) | (go_simp; rfl)) ?aP (fun _ hk => hk.elim) ?aF ?aO ?aB ?aS ?aL ?_; (case aP => exact k63_mkM _ _ _ _); (case aF => exact (fun _ _ => trivial)); (case aO => exact Kd.R_alloc HN.out.2.1 _); (case aB => exact (below_alloc (Below.refl wr.heap.size wr) _).mono hle); (case aS => rw [World.size_alloc]; omega); (case aL => simp only [List.length_append, ats_len, List.length_take]; omega); intro u1 w8 ho hb hg hat; rw [← HAT.out] at ho; obtain ⟨Ax, cx, rfl⟩ := Kd.R_slice ho; obtain ⟨h1, h2⟩ := HN.out.step (by omega) (by omega) hb ho; obtain ⟨c9, z9⟩ := blkc h1 1 rfl; have HN1 := Aside0.mk h2; clear ho hb hg hat h1 h2)
     go_roundg k1
     case measure => omega
     case rel => exact ⟨i + 1, _, by first | rfl | (congr 1; omega) | (simp; done), hlt, HK1, ⟨by rw [← HZ.out]; exact HN1.out⟩⟩
    ·obtain rfl : i = me.length := by omega
     rw [List.take_length] at HN
     clear HK
     obtain ⟨inp, hinp⟩ : ∃ z, z = ats (n : Int) ch ++ ats ((n : Int) + 1) me := ⟨_, rfl⟩
     rw [← hinp] at HN
     have HINP := Aside0.mk hinp
     have hlen : (ch ++ me).length ≤ 2048 := by rw [List.length_append]; omega
     have hlp : 0 < (ch ++ me).length := by rw [List.length_append]; omega
     have HCA := Aside0.mk (HN.out.C44 HX7.out BJ7.out (by simp))
     have HCB := Aside0.mk (HN.out.C44 HC7.out BJ7.out (by simp))
     clear hinp
     obtain ⟨cm, hcm⟩ : ∃ x, ch ++ me = x := ⟨_, rfl⟩
     rw [hcm] at hlen hlp
     have HCM := Aside0.mk (show [ch, me].flatten = cm by rw [← hcm]; simp)
     have HCM2 := Aside0.mk hcm
     clear hcm
     go_wp2_with (first
      | (go_at_call 36; refine (concat_calls _ 2 [ch, me] _ (C_two ch me (World.alloc_heap_new wr _) (Kd.C_alloc HCA.out _) HL4.out (Kd.C_alloc HCB.out _) HL7.out) (by rw [HCM.out]; exact hlp) (by rw [HCM.out]; omega)).mono ?_; rintro e w9 ⟨v9, rfl, hr, hb⟩; rw [HCM.out] at hr; obtain ⟨A9, c9, rfl, hl9, hC9⟩ := Kd.R_reads hr; have HC9 := Aside0.mk hC9; have HN9 := Aside0.mk ((HN.out.below (below_alloc (Below.refl _ _) _)).below hb); clear hr hb hl9 hC9)
      | (go_at_call 34; refine (span_calls A9 c9 cm _ HC9.out hlp (Nat.le_trans hlen (by decide))).mono ?_; rintro e w10 ⟨rfl, hb⟩; have HN10 := Aside0.mk (HN9.out.below hb); clear hb))
     clear HCA HCB HC9 HN9 HN
     obtain ⟨fa, hfa⟩ : ∃ x, spanA cm = x := ⟨_, rfl⟩
     obtain ⟨fb, hfb⟩ : ∃ x, spanB cm = x := ⟨_, rfl⟩
     rw [hfa, hfb]
     have HFA := Aside0.mk hfa
     have HFB := Aside0.mk hfb
     clear hfa hfb
     go_loopg [17] ls.length (fun kq v17 w' => ∃ (d : Nat) (b : Bool), v17 = .int .i64 d ∧ n + 2 ≤ d ∧ Aside0 (ls.length - d ≤ kq) ∧ Aside0 (b = ((ls.take d).drop (n + 2)).all (emptyB fa fb)) ∧ Aside0 (NxAt w w7 w3.heap.size n u b inp w'))
     case atStart => exact ⟨n + 2, true, by first | rfl | (simp; done), Nat.le_refl _, ⟨by omega⟩, ⟨all_start _ _ _⟩, HN10⟩
     case round =>
      clear HN10
      obtain ⟨d, b, rfl, hd, HK, HBB, HN⟩ := hrel
      have p8 := (blkc ((HN.out.2.2.1 w.heap.size (by omega) (by omega)).trans B27.out) 0 rfl).1
      by_cases hlt : d < ls.length
      ·obtain ⟨k1, rfl⟩ : ∃ k1, gk = k1 + 1 := ⟨gk - 1, by have := HK.out; omega⟩
       have HK1 := Aside0.mk (show ls.length - (d + 1) ≤ k1 by have := HK.out; omega)
       have HST := Aside0.mk (all_step (emptyB fa fb) ls (n + 2) d hd hlt)
       obtain ⟨c82, z82⟩ := blkc HN.out.1 2 rfl
       cases b with
       | false =>
        have HBN := Aside0.mk (show false = ((ls.take (d + 1)).drop (n + 2)).all (emptyB fa fb) by rw [HST.out, ← HBB.out]; rfl)
        go_wp2
        go_roundg k1
        case measure => omega
        case rel => exact ⟨d + 1, false, by first | rfl | (congr 1; omega) | (simp; done), by omega, HK1, HBN, ⟨HN.out.put2 (by omega) false⟩⟩
       | true =>
        obtain ⟨ad, A10, c10, ea, x0, hl1, hi1⟩ := at_L3 (Kd.C_below HC.out HN.out.2.2.2.1) (d : Int) (Int.natCast_nonneg _) (by omega)
        subst ea
        rw [Int.toNat_natCast] at x0
        obtain ⟨r, hr⟩ : ∃ r, rd_L3 ls (d : Int) = r := ⟨_, rfl⟩
        have hrl : r.length ≤ 1024 := by rw [← hr, rd_lvl]; exact HCAP.out _
        rw [hr] at x0 hl1 hi1 HST
        have HL10 := Aside0.mk hl1
        have HC10 := Aside0.mk hi1
        have HBN := Aside0.mk (show emptyB fa fb r = ((ls.take (d + 1)).drop (n + 2)).all (emptyB fa fb) by rw [HST.out, ← HBB.out]; rfl)
        clear hl1 hi1 hr
        have hmr : (meetF r fa fb).length ≤ 1024 := Nat.le_trans (meet_len _ _ _) hrl
        obtain ⟨q, hq⟩ : ∃ q, (meetF r fa fb).length = q := ⟨_, rfl⟩
        have HQ := Aside0.mk hq
        rw [hq] at hmr
        clear hq
        go_wp2_with (go_at_call 24; refine (meet_calls A10 c10 r fa fb _ HC10.out HL10.out (by omega)).mono ?_; rintro e w11 ⟨A11, c11, rfl, hl11, hC11, hb⟩; rw [HQ.out]; have HN11 := Aside0.mk (HN.out.below hb); obtain ⟨c83, z83⟩ := blkc HN11.out.1 2 rfl; clear hb hl11 hC11)
        go_roundg k1
        case measure => omega
        case rel => exact ⟨d + 1, emptyB fa fb r, by first | rfl | (congr 1; omega) | (simp; done), by omega, HK1, HBN, ⟨by
         have := HN11.out.put2 (by omega) (emptyB fa fb r)
         have e : ((q : Int) == 0) = emptyB fa fb r := by
          unfold emptyB
          rw [HQ.out]
          by_cases h0 : q = 0
          ·subst h0; rfl
          ·rw [beq_eq_false_iff_ne.mpr h0, beq_eq_false_iff_ne.mpr (by omega)]
         rw [← e] at this ⊢
         exact this⟩⟩
      ·have HB47 := (HN.out.2.2.1 (w.heap.size + 1 + 1) (by omega) (by omega)).trans B47.out
       obtain ⟨e0, g0⟩ := blkc HN.out.1 0 rfl
       obtain ⟨e1, g1⟩ := blkc HN.out.1 1 rfl
       obtain ⟨e2, g2⟩ := blkc HN.out.1 2 rfl
       obtain ⟨y0, f0⟩ := blkc HB47 0 rfl
       obtain ⟨y1, f1⟩ := blkc HB47 1 rfl
       obtain ⟨y2, f2⟩ := blkc HB47 2 rfl
       have HB48 := Aside0.mk HB47
       clear HB47
       obtain ⟨Au, cu, rfl⟩ := Kd.R_slice HN.out.2.1
       obtain ⟨il, hil⟩ : ∃ il, inp.length = il := ⟨_, rfl⟩
       rw [hil] at HN e1
       have HIL := Aside0.mk hil
       clear hil
       go_wp2
       refine bodyPost_ret (results_ct rfl _ _ (w.heap.size + 1 + 1) 33 #[.int .i64 n, .slice Au il cu, .bool b] (0, 0) _ rfl (blk_put (blk_put (blk_put HB48.out 0 _ rfl) 1 _ rfl) 2 _ rfl) Try.underlying33 rfl (by kernel_rfl)) rfl ?_
       have eb : botF ls n = b := by
        rw [HBB.out]
        unfold botF
        rw [HCH.out, HME.out, HCM2.out, HFA.out, HFB.out, List.take_of_length_le (by omega)]
        rfl
       have ei : (jobF ls n).f1 = inp := by
        unfold jobF
        rw [HCH.out, HME.out, HINP.out]
       rw [eb, ei]
       refine ⟨_, rfl, ?_, below_set (below_set (below_set HN.out.2.2.2.1 (by omega)) (by omega)) (by omega)⟩
       have h3 := HB48.out
       have hR := Kd.R_lower HN.out.2.1 (show w.heap.size ≤ w7.heap.size by omega)
       have s0 := Kd.R_far (p := ⟨w.heap.size + 1 + 1, 0, none⟩) (Kd.R_types hR h3 (by decide)) (fun _ hk => hk.2) (.int .i64 n)
       have s1 := Kd.R_far (p := ⟨w.heap.size + 1 + 1, 1, none⟩) s0 (fun _ hk => hk.2) (.slice Au il cu)
       have s2 := Kd.R_far (p := ⟨w.heap.size + 1 + 1, 2, none⟩) s1 (fun _ hk => hk.2) (.bool b)
       exact Kd.R_mono s2 (fun _ _ => trivial)
end Go.Proofs.Ytdibolblgchpdaa.P
