/- Both loops, and start. -/
import Derived.Test.YtompgphlinjglaaS21
import Derived.Test.YtompgphlinjglaaS22
namespace Go.Proofs.Ytompgphlinjglaa.P
open Go.RowKit Go.Proofs.YtompgphlinjglaaW.PrintWords Go.Proofs.YtompgphlinjglaaW.PrintLast Go.Proofs.YtompgphlinjglaaW.PrintMore
attribute [local go_sem] Oper.semAt_some
set_option linter.unusedVariables false
set_option linter.unusedSimpArgs false

/-- All tags of a pair of loops. -/
def TB (k : Nat) : Tag → Prop := fun t => TP k t ∨ TR k t ∨ t = .both k ∨ t = .bacts k
theorem TB_data {k : Nat} : ¬ TB k .data := by unfold TB TP TR; simp
structure BothAt (k : Nat) (w : World) (g : Nat → Tag) (q : Nat) (S : LS) (pl pr : Nat) (Aa : Option Addr) (ca : Nat) (bs : List Nat) : Prop where
  blk : w.heap[q]? = some (.cells #[.pointer (some ⟨pl, 0, none⟩), .slice Aa bs.length ca, .pointer (some ⟨pr, 0, none⟩)] 38 (0, 0))
  acts : Row kPtr 59 w g (.bacts k) (.slice Aa bs.length ca) bs
  prog : LoopIs k w g pl S bs
  refr : RefIs k w g pr S
  tag : g q = .both k
def BothIs (k : Nat) (w : World) (g : Nat → Tag) (q : Nat) (S : LS) : Prop := ∃ pl pr Aa ca bs, BothAt k w g q S pl pr Aa ca bs
section
variable {k : Nat} {w w1 : World} {g g1 : Nat → Tag} {q : Nat} {S : LS} {pl pr : Nat} {Aa : Option Addr} {ca : Nat} {bs : List Nat} {T : Tag → Prop}
theorem BothAt.move (h : BothAt k w g q S pl pr Aa ca bs) (ho : Only T g w w1) (he : Ext w.heap.size g g1) (h0 : ¬ T .data) (h1 : ∀ t, TB k t → ¬ T t) : BothAt k w1 g1 q S pl pr Aa ca bs :=
  ⟨ho.blk h.blk (by rw [h.tag]; exact h1 _ (.inr (.inr (.inl rfl)))), h.acts.move rfl ho he (h1 _ (.inr (.inr (.inr rfl)))), h.prog.move ho he h0 (fun t ht => h1 t (.inl ht)), h.refr.move ho he h0 (fun t ht => h1 t (.inr (.inl ht))), (he q (blk_lt h.blk)).trans h.tag⟩
theorem BothIs.move (h : BothIs k w g q S) (ho : Only T g w w1) (he : Ext w.heap.size g g1) (h0 : ¬ T .data) (h1 : ∀ t, TB k t → ¬ T t) : BothIs k w1 g1 q S := by
  obtain ⟨pl, pr, Aa, ca, bs, h⟩ := h
  exact ⟨pl, pr, Aa, ca, bs, h.move ho he h0 h1⟩
theorem LoopIs.lens (h : LoopIs k w g pl S bs) : bs.length = S.tasks.length := by
  obtain ⟨A0, c0, A1, c1, A2, c2, At, ct, Aw, cw, e, h⟩ := h
  exact (Kd.R_reads' h.tasks.1).1.symm
/-- An argument's row: data from the first. -/
theorem dat_arg {α : Type} {d : Kd α} (hd : Kd.Heap d) {A : Option Addr} {n : Nat} {xs : List α} (h : d.C w A n xs) : Dat d w gData A n xs := fun W' hW => hd.C (fun j hj => hW j rfl hj) h
def S0 (l0 l1 l2 : List Int) : LS := ⟨l0, l1, l2, [], 0, 0, 0, 0⟩
set_option maxHeartbeats 4000000 in
set_option maxRecDepth 100000 in
theorem startNot_calls (A0 : Option Addr) (c0 : Nat) (l0 : List Int) (A1 : Option Addr) (c1 : Nat) (l1 : List Int) (A2 : Option Addr) (c2 : Nat) (l2 : List Int) (w : World) (h0 : Kd.C (Kd.int .i64) w A0 l0.length l0) (hc0 : l0.length ≤ c0) (h1 : Kd.C (Kd.int .i64) w A1 l1.length l1) (hc1 : l1.length ≤ c1) (h2 : Kd.C (Kd.int .u64) w A2 l2.length l2) (hc2 : l2.length ≤ c2) (hk : checkF l0 l1 l2 ≠ 0) :
    Calls Try.prog 9 #[.agg #[.slice A0 l0.length c0, .slice A1 l1.length c1, .slice A2 l2.length c2]] w fun e w' => e = .returned (.tuple #[.pointer none, .bool true]) ∧ Below w.heap.size w w' := by
  have HB := Aside0.mk (below_alloc (Below.refl w.heap.size w) (.cells #[.slice A0 l0.length c0, .slice A1 l1.length c1, .slice A2 l2.length c2] 28))
  have BX := Aside0.mk (blk_new w (.cells #[.slice A0 l0.length c0, .slice A1 l1.length c1, .slice A2 l2.length c2] 28))
  have HN := Aside0.mk (fun (W : World) (hb : Below w.heap.size w W) => newNot_calls A0 c0 l0 A1 c1 l1 A2 c2 l2 W (Kd.C_below h0 hb) (Kd.C_below h1 hb) hk)
  have HR := Aside0.mk (fun (W : World) (hb : Below w.heap.size w W) => rcheck_calls A0 c0 l0 A1 c1 l1 A2 c2 l2 W (Kd.C_below h0 hb) hc0 (Kd.C_below h1 hb) hc1 (Kd.C_below h2 hb) hc2)
  have HC := Aside0.mk (fun (W : World) (hb : Below w.heap.size w W) => check_calls A0 c0 l0 A1 c1 l1 A2 c2 l2 W (Kd.C_below h0 hb) (Kd.C_below h1 hb))
  have CX := Aside0.mk (fun (W W' : World) (hx : W.heap[w.heap.size]? = some (.cells #[.slice A0 l0.length c0, .slice A1 l1.length c1, .slice A2 l2.length c2] 28 (0, 0))) (hb : Below W.heap.size W W') => blk_below hx hb)
  obtain ⟨x, hx⟩ : ∃ x, checkF l0 l1 l2 = x := ⟨_, rfl⟩
  rw [hx] at hk HN HR HC
  have hb0 : (x == 0) = false := by simp [hk]
  have hb1 : (x != 0) = true := by simp [hk]
  clear h0 h1 h2 hc0 hc1 hc2 hx hk
  go_enter Try.func9, Try.ntmps9
  go_upto_region 2 with (go_at_call 27; refine (HN.out _ HB.out).mono ?_; rintro e w1 ⟨rfl, hb⟩; have HB1 := Aside0.mk (below_step HB.out hb); have BX1 := Aside0.mk (CX.out _ _ BX.out hb); clear hb)
  obtain ⟨x0, _⟩ := blkc BX1.out 0 rfl
  obtain ⟨x1, _⟩ := blkc BX1.out 1 rfl
  obtain ⟨x2, _⟩ := blkc BX1.out 2 rfl
  go_upto_region 3 with (go_at_call 33; refine (HR.out _ HB1.out).mono ?_; rintro e w2 ⟨rfl, hb⟩; have HB2 := Aside0.mk (below_step HB1.out hb); have BX2 := Aside0.mk (CX.out _ _ BX1.out hb); clear hb)
  clear x0 x1 x2
  go_wp2_with (first
    | (go_at_call 23; refine (lives_calls _).mono ?_; rintro e w3 ⟨rfl, hb⟩; have HB3 := Aside0.mk (below_step HB2.out hb); have BX3 := CX.out _ _ BX2.out hb; have x0 := (blkc BX3 0 rfl).1; have x1 := (blkc BX3 1 rfl).1; have x2 := (blkc BX3 2 rfl).1; clear hb BX3)
    | (go_at_call 34; refine (HC.out _ HB3.out).mono ?_; rintro e w4 ⟨rfl, hb⟩; have HB4 := Aside0.mk (below_step HB3.out hb); clear hb))
  go_ret2
  exact ⟨rfl, HB4.out⟩
set_option maxHeartbeats 4000000 in
set_option maxRecDepth 100000 in
theorem start_calls (k : Nat) (g : Nat → Tag) (A0 : Option Addr) (c0 : Nat) (l0 : List Int) (A1 : Option Addr) (c1 : Nat) (l1 : List Int) (A2 : Option Addr) (c2 : Nat) (l2 : List Int) (w : World) (h0 : Dat (Kd.int .i64) w g A0 l0.length l0) (hc0 : l0.length ≤ c0) (h1 : Dat (Kd.int .i64) w g A1 l1.length l1) (hc1 : l1.length ≤ c1) (h2 : Dat (Kd.int .u64) w g A2 l2.length l2) (hc2 : l2.length ≤ c2) (hk : checkF l0 l1 l2 = 0) (hl : l0.length ≤ 65536 ∧ l1.length ≤ 65536 ∧ l2.length ≤ 65536) :
    Calls Try.prog 9 #[.agg #[.slice A0 l0.length c0, .slice A1 l1.length c1, .slice A2 l2.length c2]] w fun e w' => ∃ q, e = .returned (.tuple #[.pointer (some ⟨q, 0, none⟩), .bool true]) ∧ Below w.heap.size w w' ∧ ∃ g', Ext w.heap.size g g' ∧ BothIs k w' g' q (S0 l0 l1 l2) := by
  have HB := Aside0.mk (below_alloc (Below.refl w.heap.size w) (.cells #[.slice A0 l0.length c0, .slice A1 l1.length c1, .slice A2 l2.length c2] 28))
  have BX := Aside0.mk (blk_new w (.cells #[.slice A0 l0.length c0, .slice A1 l1.length c1, .slice A2 l2.length c2] 28))
  have HN := Aside0.mk (fun (W : World) (hb : Below w.heap.size w W) => new_calls A0 c0 l0 A1 c1 l1 A2 c2 l2 W (Kd.C_below h0.now hb) hc0 (Kd.C_below h1.now hb) hc1 (Kd.C_below h2.now hb) hc2 hk hl)
  have HR := Aside0.mk (fun (W : World) (hb : Below w.heap.size w W) => rcheck_calls A0 c0 l0 A1 c1 l1 A2 c2 l2 W (Kd.C_below h0.now hb) hc0 (Kd.C_below h1.now hb) hc1 (Kd.C_below h2.now hb) hc2)
  have HC := Aside0.mk (fun (W : World) (hb : Below w.heap.size w W) => check_calls A0 c0 l0 A1 c1 l1 A2 c2 l2 W (Kd.C_below h0.now hb) (Kd.C_below h1.now hb))
  have CX := Aside0.mk (fun (W W' : World) (hx : W.heap[w.heap.size]? = some (.cells #[.slice A0 l0.length c0, .slice A1 l1.length c1, .slice A2 l2.length c2] 28 (0, 0))) (hb : Below W.heap.size W W') => blk_below hx hb)
  have H0 := Aside0.mk h0
  have H1 := Aside0.mk h1
  have H2 := Aside0.mk h2
  have K0 := Aside0.mk hc0
  have K1 := Aside0.mk hc1
  have K2 := Aside0.mk hc2
  rw [hk] at HR HC
  clear h0 h1 h2 hc0 hc1 hc2 hk hl
  go_enter Try.func9, Try.ntmps9
  go_upto_region 2 with (go_at_call 27; refine (HN.out _ HB.out).mono ?_; rintro e w1 ⟨p, rfl, hb, hp, hl⟩; have HB1 := Aside0.mk (below_step HB.out hb); have BX1 := Aside0.mk (CX.out _ _ BX.out hb); have HL1 := Aside0.mk hl; clear hb hp hl)
  obtain ⟨x0, _⟩ := blkc BX1.out 0 rfl
  obtain ⟨x1, _⟩ := blkc BX1.out 1 rfl
  obtain ⟨x2, _⟩ := blkc BX1.out 2 rfl
  go_upto_region 3 with (go_at_call 33; refine (HR.out _ HB1.out).mono ?_; rintro e w2 ⟨rfl, hb⟩; have HB2 := Aside0.mk (below_step HB1.out hb); have HW2 := Aside0.mk hb; have BX2 := Aside0.mk (CX.out _ _ BX1.out hb); clear hb)
  clear x0 x1 x2
  go_wp2_with (first
    | (go_at_call 23; refine (lives_calls _).mono ?_; rintro e w3 ⟨rfl, hb⟩; have HB3 := Aside0.mk (below_step HB2.out hb); have HW3 := Aside0.mk (below_step HW2.out hb); have BX3A := Aside0.mk (CX.out _ _ BX2.out hb); have BX3 := BX3A.out; have x0 := (blkc BX3 0 rfl).1; have x1 := (blkc BX3 1 rfl).1; have x2 := (blkc BX3 2 rfl).1; clear hb BX3)
    | (go_at_call 34; refine (HC.out _ HB3.out).mono ?_; rintro e w4 ⟨rfl, hb⟩; have HB4 := Aside0.mk (below_step HB3.out hb); have HW4 := Aside0.mk (below_step HW3.out hb); have BX4 := CX.out _ _ BX3A.out hb; have y0 := (blkc BX4 0 rfl).1; have y1 := (blkc BX4 1 rfl).1; have y2 := (blkc BX4 2 rfl).1; clear hb BX4))
  go_ret2
  have hs1 : w.heap.size ≤ w1.heap.size := HB1.out.size
  have hs4 : w1.heap.size ≤ w4.heap.size := HW4.out.size
  obtain ⟨g1, e1, hl1⟩ := HL1.out g k
  have e1' : Ext w.heap.size g g1 := fun j hj => e1 j (by rw [World.size_alloc]; omega)
  have E4 : Ext w4.heap.size g1 (put (put g1 w4.heap.size (.rloop k)) (w4.heap.size + 1) (.both k)) := (put_ext _ _ _ _ (Nat.le_refl _)).trans (put_ext _ _ _ _ (by omega)) (Nat.le_refl _)
  have Ew : Ext w.heap.size g (put (put g1 w4.heap.size (.rloop k)) (w4.heap.size + 1) (.both k)) := e1'.trans E4 (by omega)
  have E1 : Ext w1.heap.size g1 (put (put g1 w4.heap.size (.rloop k)) (w4.heap.size + 1) (.both k)) := fun j hj => E4 j (by omega)
  have OB := below_alloc (below_alloc HB4.out (.cells #[.slice A0 l0.length c0, .slice A1 l1.length c1, .slice A2 l2.length c2, .slice none 0 0, .int .u64 0, .int .i64 0, .int .i64 0, .int .i64 0] 75)) (.cells #[.pointer (some ⟨p, 0, none⟩), .slice none 0 0, .pointer (some ⟨w4.heap.size, 0, none⟩)] 38)
  have OW := below_alloc (below_alloc HW4.out (.cells #[.slice A0 l0.length c0, .slice A1 l1.length c1, .slice A2 l2.length c2, .slice none 0 0, .int .u64 0, .int .i64 0, .int .i64 0, .int .i64 0] 75)) (.cells #[.pointer (some ⟨p, 0, none⟩), .slice none 0 0, .pointer (some ⟨w4.heap.size, 0, none⟩)] 38)
  refine ⟨w4.heap.size + 1, rfl, OB, put (put g1 w4.heap.size (.rloop k)) (w4.heap.size + 1) (.both k), Ew, p, w4.heap.size, none, 0, [], ?_, Row.nil _ _ _ _ _, hl1.move (Only.of_below OW (fun _ => False) g1) E1 (fun h => h) (fun _ _ h => h), ?_, put_at _ _ _⟩
  · have := blk_new (w4.alloc (.cells #[.slice A0 l0.length c0, .slice A1 l1.length c1, .slice A2 l2.length c2, .slice none 0 0, .int .u64 0, .int .i64 0, .int .i64 0, .int .i64 0] 75)) (.cells #[.pointer (some ⟨p, 0, none⟩), .slice none 0 0, .pointer (some ⟨w4.heap.size, 0, none⟩)] 38)
    rw [World.size_alloc] at this
    exact this
  · refine ⟨A0, c0, A1, c1, A2, c2, none, 0, [], blk_alloc (blk_new w4 _) _, K0.out, K1.out, K2.out, H0.out.move (Only.of_below OB (fun _ => False) g) Ew (fun h => h), H1.out.move (Only.of_below OB (fun _ => False) g) Ew (fun h => h), H2.out.move (Only.of_below OB (fun _ => False) g) Ew (fun h => h), Row.nil _ _ _ _ _, fun j hj => absurd hj (Nat.not_lt_zero _), ?_⟩
    exact (if_neg (by omega)).trans (put_at _ _ _)
end
end Go.Proofs.Ytompgphlinjglaa.P
