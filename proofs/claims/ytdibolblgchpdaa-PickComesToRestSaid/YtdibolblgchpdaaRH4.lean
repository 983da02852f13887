/- Contracts proved by hand: slices.MinFunc and MaxFunc over tables, with the closures of pick. -/
import Derived.Test.YtdibolblgchpdaaRH0
import Derived.Laws.Rows
import Derived.RangeFuncRecord
namespace Go.Proofs.Ytdibolblgchpdaa.P
open Go.RowKit Go.Proofs.YtdibolblgchpdaaW.PrintWords Go.Proofs.YtdibolblgchpdaaW.PrintLast Go.Proofs.YtdibolblgchpdaaW.PrintMore
attribute [local go_sem] Oper.semAt_some
set_option linter.unusedVariables false
set_option linter.unusedSimpArgs false
abbrev cell44 (x : S44) : Value := .agg #[.int .i64 x.f0, .int .i64 x.f1, .int .i64 x.f2, .string x.f3, .string x.f4]
theorem blkc {W : World} {g t : Nat} {cs : Array Value} (h : W.heap[g]? = some (.cells cs t (0, 0))) (j : Nat) {v : Value} (hv : cs[j]? = some v) : W.cell? ⟨g, j, none⟩ = some v ∧ W.frozen? ⟨g, j, none⟩ = false := by
  unfold World.cell? World.frozen?
  constructor
  · simpa [h] using hv
  · simp [h]
theorem below_cell {W W' : World} {a : Addr} {v : Value} (hb : Below W.heap.size W W') (h : W.cell? a = some v) : W'.cell? a = some v := (hb.cell (World.block_lt_of_cell? _ _ h)).trans h
theorem set_some {W : World} {p q : Addr} {x v : Value} (h : W.cell? q = some v) : ∃ v', (W.setCell p x).cell? q = some v' := by
  by_cases hpq : p = q
  · subst hpq
    exact ⟨x, World.cell?_setCell_same _ _ _ h⟩
  · exact ⟨v, (World.cell?_setCell_other _ _ _ _ hpq).trans h⟩
theorem get44 (l : List S44) (i : Nat) (h : i < l.length) : rd_T44 l (i : Int) = l[i] := by
  simp only [rd_T44, Int.toNat_natCast, List.getD_eq_getElem?_getD, List.getElem?_eq_getElem h]
  rfl
def blk44 (x : S44) : Obj := .cells #[.int .i64 x.f0, .int .i64 x.f1, .int .i64 x.f2, .string x.f3, .string x.f4] 44 (0, 0)
theorem five_set {W : World} {B : Nat} {z : S44} (h : W.heap[B]? = some (blk44 z)) (y : S44) : (((((W.setCell ⟨B, 0, none⟩ (.int .i64 y.f0)).setCell ⟨B, 1, none⟩ (.int .i64 y.f1)).setCell ⟨B, 2, none⟩ (.int .i64 y.f2)).setCell ⟨B, 3, none⟩ (.string y.f3)).setCell ⟨B, 4, none⟩ (.string y.f4)).heap[B]? = some (blk44 y) :=
  blk_set (blk_set (blk_set (blk_set (blk_set h 0 _) 1 _) 2 _) 3 _) 4 _
theorem five_other {W : World} {B b : Nat} {o : Obj} (h : W.heap[b]? = some o) (hne : b ≠ B) (y : S44) : (((((W.setCell ⟨B, 0, none⟩ (.int .i64 y.f0)).setCell ⟨B, 1, none⟩ (.int .i64 y.f1)).setCell ⟨B, 2, none⟩ (.int .i64 y.f2)).setCell ⟨B, 3, none⟩ (.string y.f3)).setCell ⟨B, 4, none⟩ (.string y.f4)).heap[b]? = some o :=
  (Below.heap_setCell _ _ _ _ hne).trans ((Below.heap_setCell _ _ _ _ hne).trans ((Below.heap_setCell _ _ _ _ hne).trans ((Below.heap_setCell _ _ _ _ hne).trans ((Below.heap_setCell _ _ _ _ hne).trans h))))
theorem five_below {w W : World} {B b : Nat} (h : Below b w W) (hb : b ≤ B) (y : S44) : Below b w (((((W.setCell ⟨B, 0, none⟩ (.int .i64 y.f0)).setCell ⟨B, 1, none⟩ (.int .i64 y.f1)).setCell ⟨B, 2, none⟩ (.int .i64 y.f2)).setCell ⟨B, 3, none⟩ (.string y.f3)).setCell ⟨B, 4, none⟩ (.string y.f4)) :=
  ((((h.setCell (p := ⟨B, 0, none⟩) hb _).setCell (p := ⟨B, 1, none⟩) hb _).setCell (p := ⟨B, 2, none⟩) hb _).setCell (p := ⟨B, 3, none⟩) hb _).setCell (p := ⟨B, 4, none⟩) hb _
/-- The tables' order that a closure tells. -/
def byNum (a b : S44) : Int := wrap64 (a.f0 - b.f0)
def byFirst (a b : S44) : Int := Lib.compareBytes a.f3.data.toList b.f3.data.toList
def byLast (a b : S44) : Int := Lib.compareBytes a.f4.data.toList b.f4.data.toList
def minN (p : Int → Bool) (c : S44 → S44 → Int) (l : List S44) : Nat → S44
  | 0 => z44
  | j + 1 => if j = 0 then rd_T44 l 0 else if p (c (rd_T44 l (j : Int)) (minN p c l j)) = true then rd_T44 l (j : Int) else minN p c l j
def lt0 (x : Int) : Bool := decide (x < 0)
def gt0 (x : Int) : Bool := decide (0 < x)
set_option maxHeartbeats 2000000 in
set_option maxRecDepth 100000 in
theorem clo50_calls (x y : S44) (w : World) : Calls Try.prog 50 #[cell44 x, cell44 y] w fun e w' => e = .returned (.int .i64 (byNum x y)) ∧ Below w.heap.size w w' := by
  have e1 : IntKind.i64.wrap (x.f0 - y.f0) = byNum x y := i64_w _
  go_enter Try.func50, Try.ntmps50
  go_wp2
  go_ret
  exact ⟨rfl, below_alloc (below_alloc (Below.refl _ _) _) _⟩
set_option maxHeartbeats 2000000 in
set_option maxRecDepth 100000 in
theorem clo51_calls (x y : S44) (w : World) : Calls Try.prog 51 #[cell44 x, cell44 y] w fun e w' => e = .returned (.int .i64 (byFirst x y)) ∧ Below w.heap.size w w' := by
  go_enter Try.func51, Try.ntmps51
  go_wp2_with (go_at_call 52; refine (strings_Compare.calls _ _ _ _ rfl).mono ?_; rintro e w1 ⟨rfl, hd⟩; have HD := Aside0.mk hd; clear hd)
  go_ret
  exact ⟨rfl, (below_alloc (below_alloc (Below.refl w.heap.size w) _) _).trans (HD.out.below.mono (by simp; omega))⟩
set_option maxHeartbeats 2000000 in
set_option maxRecDepth 100000 in
theorem clo53_calls (x y : S44) (w : World) : Calls Try.prog 53 #[cell44 x, cell44 y] w fun e w' => e = .returned (.int .i64 (byLast x y)) ∧ Below w.heap.size w w' := by
  go_enter Try.func53, Try.ntmps53
  go_wp2_with (go_at_call 52; refine (strings_Compare.calls _ _ _ _ rfl).mono ?_; rintro e w1 ⟨rfl, hd⟩; have HD := Aside0.mk hd; clear hd)
  go_ret
  exact ⟨rfl, (below_alloc (below_alloc (Below.refl w.heap.size w) _) _).trans (HD.out.below.mono (by simp; omega))⟩
set_option maxHeartbeats 4000000 in
set_option maxRecDepth 100000 in
theorem minNum_calls (A : Option Addr) (c : Nat) (l : List S44) (w : World) (hC : Kd.C k44 w A l.length l) (hl : 0 < l.length) (hcap : l.length ≤ 1152921504606846976) :
    Calls Try.prog 49 #[.slice A l.length c, .func (.func 50) #[] #[]] w fun e w' => e = .returned (cell44 (minN lt0 byNum l l.length)) ∧ Below w.heap.size w w' := by
  have HC := Aside0.mk hC
  clear hC
  have hl1 : decide (l.length < 1) = false := decide_eq_false (by omega)
  obtain ⟨ad, ea, x0, x1, x2, x3, x4⟩ := at_T44 (Kd.C_alloc HC.out (.cells #[.int .i64 0, .int .i64 0, .int .i64 0, .string ⟨#[]⟩, .string ⟨#[]⟩] 44)) (0 : Int) (by omega) (by omega)
  subst ea
  rw [show ad.add ((0 : Int).toNat * 5) = ad from by simp [Addr.add]] at x0 x1 x2 x3 x4
  obtain ⟨t, ht⟩ : ∃ t, rd_T44 l 0 = t := ⟨_, rfl⟩
  rw [ht] at x0 x1 x2 x3 x4
  have HT := Aside0.mk ht
  clear ht
  go_enter Try.func49, Try.ntmps49
  go_wp2
  have hB5 : (((w.alloc (.cells #[.int .i64 0, .int .i64 0, .int .i64 0, .string ⟨#[]⟩, .string ⟨#[]⟩] 44)).alloc (.cells #[.int .i64 t.f0, .int .i64 t.f1, .int .i64 t.f2, .string t.f3, .string t.f4] 44))).heap[w.heap.size + 1]? = some (.cells #[.int .i64 t.f0, .int .i64 t.f1, .int .i64 t.f2, .string t.f3, .string t.f4] 44 (0, 0)) := by
    have h := World.alloc_heap_new (w.alloc (.cells #[.int .i64 0, .int .i64 0, .int .i64 0, .string ⟨#[]⟩, .string ⟨#[]⟩] 44)) (.cells #[.int .i64 t.f0, .int .i64 t.f1, .int .i64 t.f2, .string t.f3, .string t.f4] 44)
    rw [World.size_alloc] at h
    exact h
  have hB4 : (((w.alloc (.cells #[.int .i64 0, .int .i64 0, .int .i64 0, .string ⟨#[]⟩, .string ⟨#[]⟩] 44)).alloc (.cells #[.int .i64 t.f0, .int .i64 t.f1, .int .i64 t.f2, .string t.f3, .string t.f4] 44))).heap[w.heap.size]? = some (.cells #[.int .i64 0, .int .i64 0, .int .i64 0, .string ⟨#[]⟩, .string ⟨#[]⟩] 44 (0, 0)) :=
    (Below.heap_alloc _ _ _ (by simp)).trans (World.alloc_heap_new w _)
  go_loopg [6] l.length (fun kq v6 w' => ∃ j : Nat, v6 = .int .i64 (j : Int) ∧ 1 ≤ j ∧ j ≤ l.length ∧ Aside0 (kq = l.length - j + 1) ∧ Aside0 (w'.heap[w.heap.size + 1]? = some (blk44 (minN lt0 byNum l j))) ∧ Aside0 (w'.heap[w.heap.size]? = some (blk44 z44)) ∧ Aside0 (Below w.heap.size w w'))
  case atStart => exact ⟨1, rfl, by omega, by omega, ⟨by omega⟩, ⟨by unfold minN blk44; rw [if_pos rfl, HT.out]; exact hB5⟩, ⟨hB4⟩, ⟨below_alloc (below_alloc (Below.refl _ _) _) _⟩⟩
  case round =>
    obtain ⟨j, rfl, hj1, hj, HK, H5, H4, HB⟩ := hrel
    by_cases hlt : j < l.length
    · obtain ⟨k1, rfl⟩ : ∃ k1, gk = k1 + 1 := ⟨gk - 1, by have := HK.out; omega⟩
      have HK1 := Aside0.mk (show k1 = l.length - (j + 1) + 1 by have := HK.out; omega)
      obtain ⟨ad2, ea2, y0, y1, y2, y3, y4⟩ := at_T44 (Kd.C_below HC.out HB.out) (j : Int) (by omega) (by omega)
      obtain rfl := Option.some.inj ea2
      rw [Int.toNat_natCast] at y0 y1 y2 y3 y4
      obtain ⟨y, hy⟩ : ∃ y, rd_T44 l (j : Int) = y := ⟨_, rfl⟩
      rw [hy] at y0 y1 y2 y3 y4
      obtain ⟨m, hm⟩ : ∃ m, minN lt0 byNum l j = m := ⟨_, rfl⟩
      have h5 := H5.out
      rw [hm] at h5
      have hmin : minN lt0 byNum l (j + 1) = if lt0 (byNum y m) = true then y else m := by
        conv => lhs; unfold minN
        rw [if_neg (by omega), hy, hm]
      have HMIN := Aside0.mk hmin
      have H5M := Aside0.mk h5
      obtain ⟨m0, f0⟩ := blkc h5 0 rfl
      obtain ⟨m1, f1⟩ := blkc h5 1 rfl
      obtain ⟨m2, f2⟩ := blkc h5 2 rfl
      obtain ⟨m3, f3⟩ := blkc h5 3 rfl
      obtain ⟨m4, f4⟩ := blkc h5 4 rfl
      clear hm hy h5 hmin
      go_wp2
      go_region_held3 (fun w' => w'.cell? (ad.add (j * 5)) = some (.int .i64 y.f0) ∧ w'.cell? ⟨(ad.add (j * 5)).block, (ad.add (j * 5)).off + 1, none⟩ = some (.int .i64 y.f1) ∧ w'.cell? ⟨(ad.add (j * 5)).block, (ad.add (j * 5)).off + 2, none⟩ = some (.int .i64 y.f2) ∧ w'.cell? ⟨(ad.add (j * 5)).block, (ad.add (j * 5)).off + 3, none⟩ = some (.string y.f3) ∧ w'.cell? ⟨(ad.add (j * 5)).block, (ad.add (j * 5)).off + 4, none⟩ = some (.string y.f4) ∧ w'.cell? ⟨w.heap.size + 1, 0, none⟩ = some (.int .i64 m.f0) ∧ w'.cell? ⟨w.heap.size + 1, 1, none⟩ = some (.int .i64 m.f1) ∧ w'.cell? ⟨w.heap.size + 1, 2, none⟩ = some (.int .i64 m.f2) ∧ w'.cell? ⟨w.heap.size + 1, 3, none⟩ = some (.string m.f3) ∧ w'.cell? ⟨w.heap.size + 1, 4, none⟩ = some (.string m.f4)) (first | exact ⟨y0, y1, y2, y3, y4, m0, m1, m2, m3, m4⟩ | exact ⟨y0', y1', y2', y3', y4', m0', m1', m2', m3', m4'⟩) (first | (go_at_call 50; refine (clo50_calls y m _).mono ?_; rintro e w4 ⟨rfl, hb⟩; have y0' := below_cell hb y0; have y1' := below_cell hb y1; have y2' := below_cell hb y2; have y3' := below_cell hb y3; have y4' := below_cell hb y4; have m0' := below_cell hb m0; have m1' := below_cell hb m1; have m2' := below_cell hb m2; have m3' := below_cell hb m3; have m4' := below_cell hb m4; have HB4 := Aside0.mk (show Below wr.heap.size wr w4 from (below_drew1 (Below.refl _ _)).trans hb); clear hb))
      have h5' := (HB4.out.block _ (Array.getElem?_eq_some_iff.1 H5M.out).1).trans H5M.out
      have h4' := (HB4.out.block _ (Array.getElem?_eq_some_iff.1 H4.out).1).trans H4.out
      have H5' := Aside0.mk h5'
      have H4' := Aside0.mk h4'
      have HBB := Aside0.mk (HB.out.trans (HB4.out.mono HB.out.size))
      have f0' := (blkc h5' 0 rfl).2
      have f1' := (blkc h5' 1 rfl).2
      have f2' := (blkc h5' 2 rfl).2
      have f3' := (blkc h5' 3 rfl).2
      have f4' := (blkc h5' 4 rfl).2
      clear h5' h4'
      obtain ⟨v1, g1⟩ := set_some (p := ⟨w.heap.size + 1, 0, none⟩) (x := .int .i64 y.f0) m1'
      obtain ⟨v2, g2⟩ := set_some (p := ⟨w.heap.size + 1, 0, none⟩) (x := .int .i64 y.f0) m2'
      obtain ⟨v3, g3⟩ := set_some (p := ⟨w.heap.size + 1, 0, none⟩) (x := .int .i64 y.f0) m3'
      obtain ⟨v4, g4⟩ := set_some (p := ⟨w.heap.size + 1, 0, none⟩) (x := .int .i64 y.f0) m4'
      obtain ⟨v5, g5⟩ := set_some (p := ⟨w.heap.size + 1, 1, none⟩) (x := .int .i64 y.f1) g2
      obtain ⟨v6, g6⟩ := set_some (p := ⟨w.heap.size + 1, 1, none⟩) (x := .int .i64 y.f1) g3
      obtain ⟨v7, g7⟩ := set_some (p := ⟨w.heap.size + 1, 1, none⟩) (x := .int .i64 y.f1) g4
      obtain ⟨v8, g8⟩ := set_some (p := ⟨w.heap.size + 1, 2, none⟩) (x := .int .i64 y.f2) g6
      obtain ⟨v9, g9⟩ := set_some (p := ⟨w.heap.size + 1, 2, none⟩) (x := .int .i64 y.f2) g7
      obtain ⟨v10, g10⟩ := set_some (p := ⟨w.heap.size + 1, 3, none⟩) (x := .string y.f3) g9
      go_wp2
      all_goals first
        | (have hd : ¬ (byNum y m < 0) := by omega
           have HV := Aside0.mk (show minN lt0 byNum l (j + 1) = m by rw [HMIN.out, if_neg (show ¬ lt0 (byNum y m) = true from by unfold lt0; simp only [decide_eq_true_eq]; exact hd)])
           go_roundg k1
           case measure => omega
           case rel => exact ⟨j + 1, by first | rfl | (congr 1; omega) | (simp; done), by omega, by omega, HK1, ⟨by rw [HV.out]; exact H5'.out⟩, H4', HBB⟩)
        | (have hd : byNum y m < 0 := by omega
           have HV := Aside0.mk (show minN lt0 byNum l (j + 1) = y by rw [HMIN.out, if_pos (show lt0 (byNum y m) = true from by unfold lt0; simp only [decide_eq_true_eq]; exact hd)])
           go_roundg k1
           case measure => omega
           case rel => exact ⟨j + 1, by first | rfl | (congr 1; omega) | (simp; done), by omega, by omega, HK1, ⟨by rw [HV.out]; exact five_set H5'.out y⟩, ⟨five_other H4'.out (by omega) y⟩, ⟨five_below HBB.out (by omega) y⟩⟩)
    · obtain rfl : j = l.length := by omega
      obtain ⟨m, hm⟩ : ∃ m, minN lt0 byNum l l.length = m := ⟨_, rfl⟩
      have h5 := H5.out
      have h4 := H4.out
      rw [hm] at h5
      have HM5 := Aside0.mk h5
      have HMM := Aside0.mk hm
      clear hm
      have m0 := (blkc h5 0 rfl).1
      have m1 := (blkc h5 1 rfl).1
      have m2 := (blkc h5 2 rfl).1
      have m3 := (blkc h5 3 rfl).1
      have m4 := (blkc h5 4 rfl).1
      obtain ⟨n0, f0⟩ := blkc h4 0 rfl
      obtain ⟨n1, f1⟩ := blkc h4 1 rfl
      obtain ⟨n2, f2⟩ := blkc h4 2 rfl
      obtain ⟨n3, f3⟩ := blkc h4 3 rfl
      obtain ⟨n4, f4⟩ := blkc h4 4 rfl
      obtain ⟨v1, g1⟩ := set_some (p := ⟨w.heap.size, 0, none⟩) (x := .int .i64 m.f0) n1
      obtain ⟨v2, g2⟩ := set_some (p := ⟨w.heap.size, 0, none⟩) (x := .int .i64 m.f0) n2
      obtain ⟨v3, g3⟩ := set_some (p := ⟨w.heap.size, 0, none⟩) (x := .int .i64 m.f0) n3
      obtain ⟨v4, g4⟩ := set_some (p := ⟨w.heap.size, 0, none⟩) (x := .int .i64 m.f0) n4
      obtain ⟨v5, g5⟩ := set_some (p := ⟨w.heap.size, 1, none⟩) (x := .int .i64 m.f1) g2
      obtain ⟨v6, g6⟩ := set_some (p := ⟨w.heap.size, 1, none⟩) (x := .int .i64 m.f1) g3
      obtain ⟨v7, g7⟩ := set_some (p := ⟨w.heap.size, 1, none⟩) (x := .int .i64 m.f1) g4
      obtain ⟨v8, g8⟩ := set_some (p := ⟨w.heap.size, 2, none⟩) (x := .int .i64 m.f2) g6
      obtain ⟨v9, g9⟩ := set_some (p := ⟨w.heap.size, 2, none⟩) (x := .int .i64 m.f2) g7
      obtain ⟨v10, g10⟩ := set_some (p := ⟨w.heap.size, 3, none⟩) (x := .string m.f3) g9
      clear h5 h4
      go_wp2
      refine bodyPost_ret (results_cell_row rfl _ _ w.heap.size 44 _ (0, 0) _ rfl (five_set H4.out m) Try.underlying44 rfl (by kernel_rfl)) rfl ?_
      exact ⟨by rw [HMM.out], five_below HB.out (by omega) m⟩
set_option maxHeartbeats 4000000 in
set_option maxRecDepth 100000 in
theorem minFirst_calls (A : Option Addr) (c : Nat) (l : List S44) (w : World) (hC : Kd.C k44 w A l.length l) (hl : 0 < l.length) (hcap : l.length ≤ 1152921504606846976) :
    Calls Try.prog 49 #[.slice A l.length c, .func (.func 51) #[] #[]] w fun e w' => e = .returned (cell44 (minN lt0 byFirst l l.length)) ∧ Below w.heap.size w w' := by
  have HC := Aside0.mk hC
  clear hC
  have hl1 : decide (l.length < 1) = false := decide_eq_false (by omega)
  obtain ⟨ad, ea, x0, x1, x2, x3, x4⟩ := at_T44 (Kd.C_alloc HC.out (.cells #[.int .i64 0, .int .i64 0, .int .i64 0, .string ⟨#[]⟩, .string ⟨#[]⟩] 44)) (0 : Int) (by omega) (by omega)
  subst ea
  rw [show ad.add ((0 : Int).toNat * 5) = ad from by simp [Addr.add]] at x0 x1 x2 x3 x4
  obtain ⟨t, ht⟩ : ∃ t, rd_T44 l 0 = t := ⟨_, rfl⟩
  rw [ht] at x0 x1 x2 x3 x4
  have HT := Aside0.mk ht
  clear ht
  go_enter Try.func49, Try.ntmps49
  go_wp2
  have hB5 : (((w.alloc (.cells #[.int .i64 0, .int .i64 0, .int .i64 0, .string ⟨#[]⟩, .string ⟨#[]⟩] 44)).alloc (.cells #[.int .i64 t.f0, .int .i64 t.f1, .int .i64 t.f2, .string t.f3, .string t.f4] 44))).heap[w.heap.size + 1]? = some (.cells #[.int .i64 t.f0, .int .i64 t.f1, .int .i64 t.f2, .string t.f3, .string t.f4] 44 (0, 0)) := by
    have h := World.alloc_heap_new (w.alloc (.cells #[.int .i64 0, .int .i64 0, .int .i64 0, .string ⟨#[]⟩, .string ⟨#[]⟩] 44)) (.cells #[.int .i64 t.f0, .int .i64 t.f1, .int .i64 t.f2, .string t.f3, .string t.f4] 44)
    rw [World.size_alloc] at h
    exact h
  have hB4 : (((w.alloc (.cells #[.int .i64 0, .int .i64 0, .int .i64 0, .string ⟨#[]⟩, .string ⟨#[]⟩] 44)).alloc (.cells #[.int .i64 t.f0, .int .i64 t.f1, .int .i64 t.f2, .string t.f3, .string t.f4] 44))).heap[w.heap.size]? = some (.cells #[.int .i64 0, .int .i64 0, .int .i64 0, .string ⟨#[]⟩, .string ⟨#[]⟩] 44 (0, 0)) :=
    (Below.heap_alloc _ _ _ (by simp)).trans (World.alloc_heap_new w _)
  go_loopg [6] l.length (fun kq v6 w' => ∃ j : Nat, v6 = .int .i64 (j : Int) ∧ 1 ≤ j ∧ j ≤ l.length ∧ Aside0 (kq = l.length - j + 1) ∧ Aside0 (w'.heap[w.heap.size + 1]? = some (blk44 (minN lt0 byFirst l j))) ∧ Aside0 (w'.heap[w.heap.size]? = some (blk44 z44)) ∧ Aside0 (Below w.heap.size w w'))
  case atStart => exact ⟨1, rfl, by omega, by omega, ⟨by omega⟩, ⟨by unfold minN blk44; rw [if_pos rfl, HT.out]; exact hB5⟩, ⟨hB4⟩, ⟨below_alloc (below_alloc (Below.refl _ _) _) _⟩⟩
  case round =>
    obtain ⟨j, rfl, hj1, hj, HK, H5, H4, HB⟩ := hrel
    by_cases hlt : j < l.length
    · obtain ⟨k1, rfl⟩ : ∃ k1, gk = k1 + 1 := ⟨gk - 1, by have := HK.out; omega⟩
      have HK1 := Aside0.mk (show k1 = l.length - (j + 1) + 1 by have := HK.out; omega)
      obtain ⟨ad2, ea2, y0, y1, y2, y3, y4⟩ := at_T44 (Kd.C_below HC.out HB.out) (j : Int) (by omega) (by omega)
      obtain rfl := Option.some.inj ea2
      rw [Int.toNat_natCast] at y0 y1 y2 y3 y4
      obtain ⟨y, hy⟩ : ∃ y, rd_T44 l (j : Int) = y := ⟨_, rfl⟩
      rw [hy] at y0 y1 y2 y3 y4
      obtain ⟨m, hm⟩ : ∃ m, minN lt0 byFirst l j = m := ⟨_, rfl⟩
      have h5 := H5.out
      rw [hm] at h5
      have hmin : minN lt0 byFirst l (j + 1) = if lt0 (byFirst y m) = true then y else m := by
        conv => lhs; unfold minN
        rw [if_neg (by omega), hy, hm]
      have HMIN := Aside0.mk hmin
      have H5M := Aside0.mk h5
      obtain ⟨m0, f0⟩ := blkc h5 0 rfl
      obtain ⟨m1, f1⟩ := blkc h5 1 rfl
      obtain ⟨m2, f2⟩ := blkc h5 2 rfl
      obtain ⟨m3, f3⟩ := blkc h5 3 rfl
      obtain ⟨m4, f4⟩ := blkc h5 4 rfl
      clear hm hy h5 hmin
      go_wp2
      go_region_held3 (fun w' => w'.cell? (ad.add (j * 5)) = some (.int .i64 y.f0) ∧ w'.cell? ⟨(ad.add (j * 5)).block, (ad.add (j * 5)).off + 1, none⟩ = some (.int .i64 y.f1) ∧ w'.cell? ⟨(ad.add (j * 5)).block, (ad.add (j * 5)).off + 2, none⟩ = some (.int .i64 y.f2) ∧ w'.cell? ⟨(ad.add (j * 5)).block, (ad.add (j * 5)).off + 3, none⟩ = some (.string y.f3) ∧ w'.cell? ⟨(ad.add (j * 5)).block, (ad.add (j * 5)).off + 4, none⟩ = some (.string y.f4) ∧ w'.cell? ⟨w.heap.size + 1, 0, none⟩ = some (.int .i64 m.f0) ∧ w'.cell? ⟨w.heap.size + 1, 1, none⟩ = some (.int .i64 m.f1) ∧ w'.cell? ⟨w.heap.size + 1, 2, none⟩ = some (.int .i64 m.f2) ∧ w'.cell? ⟨w.heap.size + 1, 3, none⟩ = some (.string m.f3) ∧ w'.cell? ⟨w.heap.size + 1, 4, none⟩ = some (.string m.f4)) (first | exact ⟨y0, y1, y2, y3, y4, m0, m1, m2, m3, m4⟩ | exact ⟨y0', y1', y2', y3', y4', m0', m1', m2', m3', m4'⟩) (first | (go_at_call 51; refine (clo51_calls y m _).mono ?_; rintro e w4 ⟨rfl, hb⟩; have y0' := below_cell hb y0; have y1' := below_cell hb y1; have y2' := below_cell hb y2; have y3' := below_cell hb y3; have y4' := below_cell hb y4; have m0' := below_cell hb m0; have m1' := below_cell hb m1; have m2' := below_cell hb m2; have m3' := below_cell hb m3; have m4' := below_cell hb m4; have HB4 := Aside0.mk (show Below wr.heap.size wr w4 from (below_drew1 (Below.refl _ _)).trans hb); clear hb))
      have h5' := (HB4.out.block _ (Array.getElem?_eq_some_iff.1 H5M.out).1).trans H5M.out
      have h4' := (HB4.out.block _ (Array.getElem?_eq_some_iff.1 H4.out).1).trans H4.out
      have H5' := Aside0.mk h5'
      have H4' := Aside0.mk h4'
      have HBB := Aside0.mk (HB.out.trans (HB4.out.mono HB.out.size))
      have f0' := (blkc h5' 0 rfl).2
      have f1' := (blkc h5' 1 rfl).2
      have f2' := (blkc h5' 2 rfl).2
      have f3' := (blkc h5' 3 rfl).2
      have f4' := (blkc h5' 4 rfl).2
      clear h5' h4'
      obtain ⟨v1, g1⟩ := set_some (p := ⟨w.heap.size + 1, 0, none⟩) (x := .int .i64 y.f0) m1'
      obtain ⟨v2, g2⟩ := set_some (p := ⟨w.heap.size + 1, 0, none⟩) (x := .int .i64 y.f0) m2'
      obtain ⟨v3, g3⟩ := set_some (p := ⟨w.heap.size + 1, 0, none⟩) (x := .int .i64 y.f0) m3'
      obtain ⟨v4, g4⟩ := set_some (p := ⟨w.heap.size + 1, 0, none⟩) (x := .int .i64 y.f0) m4'
      obtain ⟨v5, g5⟩ := set_some (p := ⟨w.heap.size + 1, 1, none⟩) (x := .int .i64 y.f1) g2
      obtain ⟨v6, g6⟩ := set_some (p := ⟨w.heap.size + 1, 1, none⟩) (x := .int .i64 y.f1) g3
      obtain ⟨v7, g7⟩ := set_some (p := ⟨w.heap.size + 1, 1, none⟩) (x := .int .i64 y.f1) g4
      obtain ⟨v8, g8⟩ := set_some (p := ⟨w.heap.size + 1, 2, none⟩) (x := .int .i64 y.f2) g6
      obtain ⟨v9, g9⟩ := set_some (p := ⟨w.heap.size + 1, 2, none⟩) (x := .int .i64 y.f2) g7
      obtain ⟨v10, g10⟩ := set_some (p := ⟨w.heap.size + 1, 3, none⟩) (x := .string y.f3) g9
      go_wp2
      all_goals first
        | (have hd : ¬ (byFirst y m < 0) := by omega
           have HV := Aside0.mk (show minN lt0 byFirst l (j + 1) = m by rw [HMIN.out, if_neg (show ¬ lt0 (byFirst y m) = true from by unfold lt0; simp only [decide_eq_true_eq]; exact hd)])
           go_roundg k1
           case measure => omega
           case rel => exact ⟨j + 1, by first | rfl | (congr 1; omega) | (simp; done), by omega, by omega, HK1, ⟨by rw [HV.out]; exact H5'.out⟩, H4', HBB⟩)
        | (have hd : byFirst y m < 0 := by omega
           have HV := Aside0.mk (show minN lt0 byFirst l (j + 1) = y by rw [HMIN.out, if_pos (show lt0 (byFirst y m) = true from by unfold lt0; simp only [decide_eq_true_eq]; exact hd)])
           go_roundg k1
           case measure => omega
           case rel => exact ⟨j + 1, by first | rfl | (congr 1; omega) | (simp; done), by omega, by omega, HK1, ⟨by rw [HV.out]; exact five_set H5'.out y⟩, ⟨five_other H4'.out (by omega) y⟩, ⟨five_below HBB.out (by omega) y⟩⟩)
    · obtain rfl : j = l.length := by omega
      obtain ⟨m, hm⟩ : ∃ m, minN lt0 byFirst l l.length = m := ⟨_, rfl⟩
      have h5 := H5.out
      have h4 := H4.out
      rw [hm] at h5
      have HM5 := Aside0.mk h5
      have HMM := Aside0.mk hm
      clear hm
      have m0 := (blkc h5 0 rfl).1
      have m1 := (blkc h5 1 rfl).1
      have m2 := (blkc h5 2 rfl).1
      have m3 := (blkc h5 3 rfl).1
      have m4 := (blkc h5 4 rfl).1
      obtain ⟨n0, f0⟩ := blkc h4 0 rfl
      obtain ⟨n1, f1⟩ := blkc h4 1 rfl
      obtain ⟨n2, f2⟩ := blkc h4 2 rfl
      obtain ⟨n3, f3⟩ := blkc h4 3 rfl
      obtain ⟨n4, f4⟩ := blkc h4 4 rfl
      obtain ⟨v1, g1⟩ := set_some (p := ⟨w.heap.size, 0, none⟩) (x := .int .i64 m.f0) n1
      obtain ⟨v2, g2⟩ := set_some (p := ⟨w.heap.size, 0, none⟩) (x := .int .i64 m.f0) n2
      obtain ⟨v3, g3⟩ := set_some (p := ⟨w.heap.size, 0, none⟩) (x := .int .i64 m.f0) n3
      obtain ⟨v4, g4⟩ := set_some (p := ⟨w.heap.size, 0, none⟩) (x := .int .i64 m.f0) n4
      obtain ⟨v5, g5⟩ := set_some (p := ⟨w.heap.size, 1, none⟩) (x := .int .i64 m.f1) g2
      obtain ⟨v6, g6⟩ := set_some (p := ⟨w.heap.size, 1, none⟩) (x := .int .i64 m.f1) g3
      obtain ⟨v7, g7⟩ := set_some (p := ⟨w.heap.size, 1, none⟩) (x := .int .i64 m.f1) g4
      obtain ⟨v8, g8⟩ := set_some (p := ⟨w.heap.size, 2, none⟩) (x := .int .i64 m.f2) g6
      obtain ⟨v9, g9⟩ := set_some (p := ⟨w.heap.size, 2, none⟩) (x := .int .i64 m.f2) g7
      obtain ⟨v10, g10⟩ := set_some (p := ⟨w.heap.size, 3, none⟩) (x := .string m.f3) g9
      clear h5 h4
      go_wp2
      refine bodyPost_ret (results_cell_row rfl _ _ w.heap.size 44 _ (0, 0) _ rfl (five_set H4.out m) Try.underlying44 rfl (by kernel_rfl)) rfl ?_
      exact ⟨by rw [HMM.out], five_below HB.out (by omega) m⟩
set_option maxHeartbeats 4000000 in
set_option maxRecDepth 100000 in
theorem maxLast_calls (A : Option Addr) (c : Nat) (l : List S44) (w : World) (hC : Kd.C k44 w A l.length l) (hl : 0 < l.length) (hcap : l.length ≤ 1152921504606846976) :
    Calls Try.prog 54 #[.slice A l.length c, .func (.func 53) #[] #[]] w fun e w' => e = .returned (cell44 (minN gt0 byLast l l.length)) ∧ Below w.heap.size w w' := by
  have HC := Aside0.mk hC
  clear hC
  have hl1 : decide (l.length < 1) = false := decide_eq_false (by omega)
  obtain ⟨ad, ea, x0, x1, x2, x3, x4⟩ := at_T44 (Kd.C_alloc HC.out (.cells #[.int .i64 0, .int .i64 0, .int .i64 0, .string ⟨#[]⟩, .string ⟨#[]⟩] 44)) (0 : Int) (by omega) (by omega)
  subst ea
  rw [show ad.add ((0 : Int).toNat * 5) = ad from by simp [Addr.add]] at x0 x1 x2 x3 x4
  obtain ⟨t, ht⟩ : ∃ t, rd_T44 l 0 = t := ⟨_, rfl⟩
  rw [ht] at x0 x1 x2 x3 x4
  have HT := Aside0.mk ht
  clear ht
  go_enter Try.func54, Try.ntmps54
  go_wp2
  have hB5 : (((w.alloc (.cells #[.int .i64 0, .int .i64 0, .int .i64 0, .string ⟨#[]⟩, .string ⟨#[]⟩] 44)).alloc (.cells #[.int .i64 t.f0, .int .i64 t.f1, .int .i64 t.f2, .string t.f3, .string t.f4] 44))).heap[w.heap.size + 1]? = some (.cells #[.int .i64 t.f0, .int .i64 t.f1, .int .i64 t.f2, .string t.f3, .string t.f4] 44 (0, 0)) := by
    have h := World.alloc_heap_new (w.alloc (.cells #[.int .i64 0, .int .i64 0, .int .i64 0, .string ⟨#[]⟩, .string ⟨#[]⟩] 44)) (.cells #[.int .i64 t.f0, .int .i64 t.f1, .int .i64 t.f2, .string t.f3, .string t.f4] 44)
    rw [World.size_alloc] at h
    exact h
  have hB4 : (((w.alloc (.cells #[.int .i64 0, .int .i64 0, .int .i64 0, .string ⟨#[]⟩, .string ⟨#[]⟩] 44)).alloc (.cells #[.int .i64 t.f0, .int .i64 t.f1, .int .i64 t.f2, .string t.f3, .string t.f4] 44))).heap[w.heap.size]? = some (.cells #[.int .i64 0, .int .i64 0, .int .i64 0, .string ⟨#[]⟩, .string ⟨#[]⟩] 44 (0, 0)) :=
    (Below.heap_alloc _ _ _ (by simp)).trans (World.alloc_heap_new w _)
  go_loopg [6] l.length (fun kq v6 w' => ∃ j : Nat, v6 = .int .i64 (j : Int) ∧ 1 ≤ j ∧ j ≤ l.length ∧ Aside0 (kq = l.length - j + 1) ∧ Aside0 (w'.heap[w.heap.size + 1]? = some (blk44 (minN gt0 byLast l j))) ∧ Aside0 (w'.heap[w.heap.size]? = some (blk44 z44)) ∧ Aside0 (Below w.heap.size w w'))
  case atStart => exact ⟨1, rfl, by omega, by omega, ⟨by omega⟩, ⟨by unfold minN blk44; rw [if_pos rfl, HT.out]; exact hB5⟩, ⟨hB4⟩, ⟨below_alloc (below_alloc (Below.refl _ _) _) _⟩⟩
  case round =>
    obtain ⟨j, rfl, hj1, hj, HK, H5, H4, HB⟩ := hrel
    by_cases hlt : j < l.length
    · obtain ⟨k1, rfl⟩ : ∃ k1, gk = k1 + 1 := ⟨gk - 1, by have := HK.out; omega⟩
      have HK1 := Aside0.mk (show k1 = l.length - (j + 1) + 1 by have := HK.out; omega)
      obtain ⟨ad2, ea2, y0, y1, y2, y3, y4⟩ := at_T44 (Kd.C_below HC.out HB.out) (j : Int) (by omega) (by omega)
      obtain rfl := Option.some.inj ea2
      rw [Int.toNat_natCast] at y0 y1 y2 y3 y4
      obtain ⟨y, hy⟩ : ∃ y, rd_T44 l (j : Int) = y := ⟨_, rfl⟩
      rw [hy] at y0 y1 y2 y3 y4
      obtain ⟨m, hm⟩ : ∃ m, minN gt0 byLast l j = m := ⟨_, rfl⟩
      have h5 := H5.out
      rw [hm] at h5
      have hmin : minN gt0 byLast l (j + 1) = if gt0 (byLast y m) = true then y else m := by
        conv => lhs; unfold minN
        rw [if_neg (by omega), hy, hm]
      have HMIN := Aside0.mk hmin
      have H5M := Aside0.mk h5
      obtain ⟨m0, f0⟩ := blkc h5 0 rfl
      obtain ⟨m1, f1⟩ := blkc h5 1 rfl
      obtain ⟨m2, f2⟩ := blkc h5 2 rfl
      obtain ⟨m3, f3⟩ := blkc h5 3 rfl
      obtain ⟨m4, f4⟩ := blkc h5 4 rfl
      clear hm hy h5 hmin
      go_wp2
      go_region_held3 (fun w' => w'.cell? (ad.add (j * 5)) = some (.int .i64 y.f0) ∧ w'.cell? ⟨(ad.add (j * 5)).block, (ad.add (j * 5)).off + 1, none⟩ = some (.int .i64 y.f1) ∧ w'.cell? ⟨(ad.add (j * 5)).block, (ad.add (j * 5)).off + 2, none⟩ = some (.int .i64 y.f2) ∧ w'.cell? ⟨(ad.add (j * 5)).block, (ad.add (j * 5)).off + 3, none⟩ = some (.string y.f3) ∧ w'.cell? ⟨(ad.add (j * 5)).block, (ad.add (j * 5)).off + 4, none⟩ = some (.string y.f4) ∧ w'.cell? ⟨w.heap.size + 1, 0, none⟩ = some (.int .i64 m.f0) ∧ w'.cell? ⟨w.heap.size + 1, 1, none⟩ = some (.int .i64 m.f1) ∧ w'.cell? ⟨w.heap.size + 1, 2, none⟩ = some (.int .i64 m.f2) ∧ w'.cell? ⟨w.heap.size + 1, 3, none⟩ = some (.string m.f3) ∧ w'.cell? ⟨w.heap.size + 1, 4, none⟩ = some (.string m.f4)) (first | exact ⟨y0, y1, y2, y3, y4, m0, m1, m2, m3, m4⟩ | exact ⟨y0', y1', y2', y3', y4', m0', m1', m2', m3', m4'⟩) (first | (go_at_call 53; refine (clo53_calls y m _).mono ?_; rintro e w4 ⟨rfl, hb⟩; have y0' := below_cell hb y0; have y1' := below_cell hb y1; have y2' := below_cell hb y2; have y3' := below_cell hb y3; have y4' := below_cell hb y4; have m0' := below_cell hb m0; have m1' := below_cell hb m1; have m2' := below_cell hb m2; have m3' := below_cell hb m3; have m4' := below_cell hb m4; have HB4 := Aside0.mk (show Below wr.heap.size wr w4 from (below_drew1 (Below.refl _ _)).trans hb); clear hb))
      have h5' := (HB4.out.block _ (Array.getElem?_eq_some_iff.1 H5M.out).1).trans H5M.out
      have h4' := (HB4.out.block _ (Array.getElem?_eq_some_iff.1 H4.out).1).trans H4.out
      have H5' := Aside0.mk h5'
      have H4' := Aside0.mk h4'
      have HBB := Aside0.mk (HB.out.trans (HB4.out.mono HB.out.size))
      have f0' := (blkc h5' 0 rfl).2
      have f1' := (blkc h5' 1 rfl).2
      have f2' := (blkc h5' 2 rfl).2
      have f3' := (blkc h5' 3 rfl).2
      have f4' := (blkc h5' 4 rfl).2
      clear h5' h4'
      obtain ⟨v1, g1⟩ := set_some (p := ⟨w.heap.size + 1, 0, none⟩) (x := .int .i64 y.f0) m1'
      obtain ⟨v2, g2⟩ := set_some (p := ⟨w.heap.size + 1, 0, none⟩) (x := .int .i64 y.f0) m2'
      obtain ⟨v3, g3⟩ := set_some (p := ⟨w.heap.size + 1, 0, none⟩) (x := .int .i64 y.f0) m3'
      obtain ⟨v4, g4⟩ := set_some (p := ⟨w.heap.size + 1, 0, none⟩) (x := .int .i64 y.f0) m4'
      obtain ⟨v5, g5⟩ := set_some (p := ⟨w.heap.size + 1, 1, none⟩) (x := .int .i64 y.f1) g2
      obtain ⟨v6, g6⟩ := set_some (p := ⟨w.heap.size + 1, 1, none⟩) (x := .int .i64 y.f1) g3
      obtain ⟨v7, g7⟩ := set_some (p := ⟨w.heap.size + 1, 1, none⟩) (x := .int .i64 y.f1) g4
      obtain ⟨v8, g8⟩ := set_some (p := ⟨w.heap.size + 1, 2, none⟩) (x := .int .i64 y.f2) g6
      obtain ⟨v9, g9⟩ := set_some (p := ⟨w.heap.size + 1, 2, none⟩) (x := .int .i64 y.f2) g7
      obtain ⟨v10, g10⟩ := set_some (p := ⟨w.heap.size + 1, 3, none⟩) (x := .string y.f3) g9
      go_wp2
      all_goals first
        | (have hd : ¬ (0 < byLast y m) := by omega
           have HV := Aside0.mk (show minN gt0 byLast l (j + 1) = m by rw [HMIN.out, if_neg (show ¬ gt0 (byLast y m) = true from by unfold gt0; simp only [decide_eq_true_eq]; exact hd)])
           go_roundg k1
           case measure => omega
           case rel => exact ⟨j + 1, by first | rfl | (congr 1; omega) | (simp; done), by omega, by omega, HK1, ⟨by rw [HV.out]; exact H5'.out⟩, H4', HBB⟩)
        | (have hd : 0 < byLast y m := by omega
           have HV := Aside0.mk (show minN gt0 byLast l (j + 1) = y by rw [HMIN.out, if_pos (show gt0 (byLast y m) = true from by unfold gt0; simp only [decide_eq_true_eq]; exact hd)])
           go_roundg k1
           case measure => omega
           case rel => exact ⟨j + 1, by first | rfl | (congr 1; omega) | (simp; done), by omega, by omega, HK1, ⟨by rw [HV.out]; exact five_set H5'.out y⟩, ⟨five_other H4'.out (by omega) y⟩, ⟨five_below HBB.out (by omega) y⟩⟩)
    · obtain rfl : j = l.length := by omega
      obtain ⟨m, hm⟩ : ∃ m, minN gt0 byLast l l.length = m := ⟨_, rfl⟩
      have h5 := H5.out
      have h4 := H4.out
      rw [hm] at h5
      have HM5 := Aside0.mk h5
      have HMM := Aside0.mk hm
      clear hm
      have m0 := (blkc h5 0 rfl).1
      have m1 := (blkc h5 1 rfl).1
      have m2 := (blkc h5 2 rfl).1
      have m3 := (blkc h5 3 rfl).1
      have m4 := (blkc h5 4 rfl).1
      obtain ⟨n0, f0⟩ := blkc h4 0 rfl
      obtain ⟨n1, f1⟩ := blkc h4 1 rfl
      obtain ⟨n2, f2⟩ := blkc h4 2 rfl
      obtain ⟨n3, f3⟩ := blkc h4 3 rfl
      obtain ⟨n4, f4⟩ := blkc h4 4 rfl
      obtain ⟨v1, g1⟩ := set_some (p := ⟨w.heap.size, 0, none⟩) (x := .int .i64 m.f0) n1
      obtain ⟨v2, g2⟩ := set_some (p := ⟨w.heap.size, 0, none⟩) (x := .int .i64 m.f0) n2
      obtain ⟨v3, g3⟩ := set_some (p := ⟨w.heap.size, 0, none⟩) (x := .int .i64 m.f0) n3
      obtain ⟨v4, g4⟩ := set_some (p := ⟨w.heap.size, 0, none⟩) (x := .int .i64 m.f0) n4
      obtain ⟨v5, g5⟩ := set_some (p := ⟨w.heap.size, 1, none⟩) (x := .int .i64 m.f1) g2
      obtain ⟨v6, g6⟩ := set_some (p := ⟨w.heap.size, 1, none⟩) (x := .int .i64 m.f1) g3
      obtain ⟨v7, g7⟩ := set_some (p := ⟨w.heap.size, 1, none⟩) (x := .int .i64 m.f1) g4
      obtain ⟨v8, g8⟩ := set_some (p := ⟨w.heap.size, 2, none⟩) (x := .int .i64 m.f2) g6
      obtain ⟨v9, g9⟩ := set_some (p := ⟨w.heap.size, 2, none⟩) (x := .int .i64 m.f2) g7
      obtain ⟨v10, g10⟩ := set_some (p := ⟨w.heap.size, 3, none⟩) (x := .string m.f3) g9
      clear h5 h4
      go_wp2
      refine bodyPost_ret (results_cell_row rfl _ _ w.heap.size 44 _ (0, 0) _ rfl (five_set H4.out m) Try.underlying44 rfl (by kernel_rfl)) rfl ?_
      exact ⟨by rw [HMM.out], five_below HB.out (by omega) m⟩
end Go.Proofs.Ytdibolblgchpdaa.P
