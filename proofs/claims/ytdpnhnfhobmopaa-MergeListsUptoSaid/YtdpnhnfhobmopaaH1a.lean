/- Contracts proved by hand: the heads' own methods. -/
import Derived.Test.YtdpnhnfhobmopaaPL1b
import Derived.RegionTactic
import Derived.WalkSpells
import Derived.Great.Walk
namespace Go.Proofs.Ytdpnhnfhobmopaa.P
open Go.RowKit Go.Proofs.YtdpnhnfhobmopaaW.PrintWords Go.Proofs.YtdpnhnfhobmopaaW.PrintLast Go.Proofs.YtdpnhnfhobmopaaW.PrintMore
set_option linter.unusedVariables false
set_option linter.unusedSimpArgs false

theorem meth_less (a : Addr) (w : World) : (method (Try.prog.types.size + Made.depth) 53 (.pointer (some a)) "Less").run Try.prog w = ((loadVar 55 a) >>= fun r => pure (64, r)).run Try.prog w := by kernel_rfl
theorem meth_len (a : Addr) (w : World) : (method (Try.prog.types.size + Made.depth) 53 (.pointer (some a)) "Len").run Try.prog w = ((loadVar 55 a) >>= fun r => pure (30, r)).run Try.prog w := by kernel_rfl
theorem meth_swap (a : Addr) (w : World) : (method (Try.prog.types.size + Made.depth) 53 (.pointer (some a)) "Swap").run Try.prog w = ((loadVar 55 a) >>= fun r => pure (66, r)).run Try.prog w := by kernel_rfl
theorem meth_pop (a : Addr) (w : World) : (method (Try.prog.types.size + Made.depth) 53 (.pointer (some a)) "Pop").run Try.prog w = .ok (65, .pointer (some a)) w := by kernel_rfl
theorem load55 (a : Addr) (w : World) (v : Value) (h : w.cell? a = some v) : (loadVar 55 a).run Try.prog w = .ok v w := by
  go_simp
theorem blk_cell1 {W : World} {g t : Nat} {cs : Array Value} (h : W.heap[g]? = some (.cells cs t (0, 0))) (j : Nat) {v : Value} (hv : cs[j]? = some v) : W.cell? ⟨g, j, none⟩ = some v ∧ W.frozen? ⟨g, j, none⟩ = false := by
  unfold World.cell? World.frozen?
  constructor
  · simpa [h] using hv
  · simp [h]
theorem cell_setCell_some {W : World} {p q : Addr} {x v : Value} (h : W.cell? q = some v) : ∃ v', (W.setCell p x).cell? q = some v' := by
  by_cases hpq : p = q
  · subst hpq
    exact ⟨x, World.cell?_setCell_same _ _ _ h⟩
  · exact ⟨v, (World.cell?_setCell_other _ _ _ _ hpq).trans h⟩
theorem blk_setL {W : World} {g t : Nat} {cs : List Value} (h : W.heap[g]? = some (.cells cs.toArray t (0, 0))) (j : Nat) (x : Value) : (W.setCell ⟨g, j, none⟩ x).heap[g]? = some (.cells (cs.set j x).toArray t (0, 0)) := by
  have h2 := blk_set h j x
  rw [List.setIfInBounds_toArray] at h2
  exact h2
/-- Beside the heads' row and the variable that holds it nothing is written. -/
structure Oth (B g hp : Nat) (W W' : World) : Prop where
  below : Below B W W'
  size : W.heap.size ≤ W'.heap.size
  same : ∀ b, b < W.heap.size → b ≠ g → b ≠ hp → W'.heap[b]? = W.heap[b]?
theorem Oth.refl (B g hp : Nat) (W : World) : Oth B g hp W W := ⟨Below.refl _ _, Nat.le_refl _, fun _ _ _ _ => rfl⟩
theorem Oth.trans {B g hp : Nat} {W W1 W2 : World} (h : Oth B g hp W W1) (h2 : Oth B g hp W1 W2) : Oth B g hp W W2 :=
  ⟨h.below.trans h2.below, Nat.le_trans h.size h2.size, fun b hb h3 h4 => (h2.same b (Nat.lt_of_lt_of_le hb h.size) h3 h4).trans (h.same b hb h3 h4)⟩
theorem Oth.of_below {B g hp : Nat} {W W' : World} (h : Below W.heap.size W W') (hB : B ≤ W.heap.size) : Oth B g hp W W' :=
  ⟨h.mono hB, h.size, fun b hb _ _ => h.block b hb⟩
theorem Oth.set {B g hp : Nat} (W : World) (j : Nat) (x : Value) (hB : B ≤ g) : Oth B g hp W (W.setCell ⟨g, j, none⟩ x) :=
  ⟨(Below.refl B W).setCell (p := ⟨g, j, none⟩) hB _, by simp, fun b hb h3 _ => Below.heap_setCell _ _ _ _ (h3)⟩
theorem Oth.drew {B g hp : Nat} {W W' : World} (h : Oth B g hp W W') : Oth B g hp W W'.drew := ⟨below_drew1 h.below, h.size, h.same⟩
def swapL (cs : List Value) (i j : Nat) (a0 a1 b0 b1 : Value) : List Value := (((cs.set (i * 2) b0).set (i * 2 + 1) b1).set (j * 2) a0).set (j * 2 + 1) a1
set_option maxHeartbeats 4000000 in
set_option maxRecDepth 100000 in
theorem heads_Swap_calls (g n cap i j : Nat) (cs : List Value) (hi : i < n) (hj : j < n) (hn : n ≤ 1000) (A B : Option Addr) (na nb ca cb : Nat) (ka kb : Int) (w : World)
    (hrow : w.heap[g]? = some (.cells cs.toArray 57 (0, 0))) (ha0 : cs[i * 2]? = some (.slice A na ca)) (ha1 : cs[i * 2 + 1]? = some (.int .i64 ka)) (hb0 : cs[j * 2]? = some (.slice B nb cb)) (hb1 : cs[j * 2 + 1]? = some (.int .i64 kb)) :
    Calls Try.prog 66 #[.slice (some ⟨g, 0, none⟩) n cap, .int .i64 i, .int .i64 j] w fun e w' => e = .returned (.tuple #[]) ∧ w'.heap[g]? = some (.cells (swapL cs i j (.slice A na ca) (.int .i64 ka) (.slice B nb cb) (.int .i64 kb)).toArray 57 (0, 0)) ∧ ∀ B hp, B ≤ g → Oth B g hp w w' := by
  have cA0 := blk_cell1 hrow (i * 2) (by simpa using ha0)
  have cA1 := blk_cell1 hrow (i * 2 + 1) (by simpa using ha1)
  have cB0 := blk_cell1 hrow (j * 2) (by simpa using hb0)
  have cB1 := blk_cell1 hrow (j * 2 + 1) (by simpa using hb1)
  obtain ⟨x1, y1⟩ := cA0
  obtain ⟨x2, y2⟩ := cA1
  obtain ⟨x3, y3⟩ := cB0
  obtain ⟨x4, y4⟩ := cB1
  obtain ⟨v1, h1⟩ := cell_setCell_some (p := ⟨g, i * 2, none⟩) (x := .slice B nb cb) x3
  obtain ⟨v2, h2⟩ := cell_setCell_some (p := ⟨g, i * 2, none⟩) (x := .slice B nb cb) x4
  obtain ⟨v3, h3⟩ := cell_setCell_some (p := ⟨g, i * 2 + 1, none⟩) (x := .int .i64 kb) h2
  go_enter Try.func66, Try.ntmps66
  go_wp2

  go_region
  refine Great.bodyPost_end0 rfl rfl ⟨rfl, blk_setL (blk_setL (blk_setL (blk_setL hrow _ _) _ _) _ _) _ _, fun B hp hB => ?_⟩
  exact ((((Oth.set w _ _ hB).trans (Oth.set _ _ _ hB)).trans (Oth.set _ _ _ hB)).trans (Oth.set _ _ _ hB)).drew

/-! ### the heads -/
structure Hd where
  A : Option Addr
  c : Nat
  l : List S24
  k : Int
def Hd.cells (h : Hd) : List Value := [.slice h.A h.l.length h.c, .int .i64 h.k]
def Hd.val (h : Hd) : S57 := ⟨h.l, h.k⟩
def hcs (hs : List Hd) : List Value := hs.flatMap Hd.cells
def zHd : Hd := ⟨none, 0, [], 0⟩
theorem hcs_length (hs : List Hd) : (hcs hs).length = hs.length * 2 := by
  induction hs with
  | nil => rfl
  | cons h hs ih => show (Hd.cells h ++ hcs hs).length = _; rw [List.length_append, ih]; simp [Hd.cells]; omega
theorem hcs_at (hs : List Hd) (rest : List Value) : ∀ i, i < hs.length → (hcs hs ++ rest)[i * 2]? = some (.slice (hs.getD i zHd).A (hs.getD i zHd).l.length (hs.getD i zHd).c) ∧ (hcs hs ++ rest)[i * 2 + 1]? = some (.int .i64 (hs.getD i zHd).k) := by
  induction hs with
  | nil => intro i h; simp at h
  | cons h hs ih =>
    intro i hi
    cases i with
    | zero => exact ⟨rfl, rfl⟩
    | succ i =>
      have := ih i (by simpa using hi)
      have e : (i + 1) * 2 = i * 2 + 1 + 1 := by omega
      rw [e]
      exact this
theorem hcs_set (hs : List Hd) (rest : List Value) (x : Hd) : ∀ i, i < hs.length → ((hcs hs ++ rest).set (i * 2) (.slice x.A x.l.length x.c)).set (i * 2 + 1) (.int .i64 x.k) = hcs (hs.set i x) ++ rest := by
  induction hs with
  | nil => intro i h; simp at h
  | cons h hs ih =>
    intro i hi
    cases i with
    | zero => rfl
    | succ i =>
      have := ih i (by simpa using hi)
      have e : (i + 1) * 2 = i * 2 + 1 + 1 := by omega
      rw [e]
      show (Value.slice h.A h.l.length h.c) :: (Value.int .i64 h.k) :: _ = (Value.slice h.A h.l.length h.c) :: (Value.int .i64 h.k) :: (hcs (hs.set i x) ++ rest)
      rw [← this]
      rfl
def swapH (hs : List Hd) (i j : Nat) : List Hd := (hs.set i (hs.getD j zHd)).set j (hs.getD i zHd)
theorem swapH_length (hs : List Hd) (i j : Nat) : (swapH hs i j).length = hs.length := by simp [swapH]
theorem swapL_eq (hs : List Hd) (rest : List Value) (i j : Nat) (hi : i < hs.length) (hj : j < hs.length) :
    swapL (hcs hs ++ rest) i j (.slice (hs.getD i zHd).A (hs.getD i zHd).l.length (hs.getD i zHd).c) (.int .i64 (hs.getD i zHd).k) (.slice (hs.getD j zHd).A (hs.getD j zHd).l.length (hs.getD j zHd).c) (.int .i64 (hs.getD j zHd).k) = hcs (swapH hs i j) ++ rest := by
  unfold swapL swapH
  rw [hcs_set hs rest _ i hi, hcs_set _ rest _ j (by simpa using hj)]
def hOk (w : World) (h : Hd) : Prop := Kd.C k24 w h.A h.l.length h.l ∧ h.l.length ≤ h.c
/-- The heads, as they lie. -/
structure HA (w0 W : World) (hp g cap : Nat) (hs : List Hd) : Prop where
  below : Below w0.heap.size w0 W
  hpB : w0.heap.size ≤ hp
  gB : w0.heap.size ≤ g
  ne : hp ≠ g
  capB : hs.length ≤ cap
  small : hs.length ≤ 1000
  box : W.heap[hp]? = some (.cells #[.slice (some ⟨g, 0, none⟩) hs.length cap] 55 (0, 0))
  row : ∃ rest, W.heap[g]? = some (.cells (hcs hs ++ rest).toArray 57 (0, 0))
  lists : ∀ h ∈ hs, hOk w0 h
theorem HA.keep {w0 W W' : World} {hp g cap : Nat} {hs : List Hd} (h : HA w0 W hp g cap hs) (hb : Below W.heap.size W W') : HA w0 W' hp g cap hs := by
  obtain ⟨rest, hr⟩ := h.row
  exact ⟨h.below.trans (hb.mono h.below.size), h.hpB, h.gB, h.ne, h.capB, h.small, (hb.block _ (Array.getElem?_eq_some_iff.1 h.box).1).trans h.box, ⟨rest, (hb.block _ (Array.getElem?_eq_some_iff.1 hr).1).trans hr⟩, h.lists⟩
theorem HA.cell {w0 W : World} {hp g cap : Nat} {hs : List Hd} (h : HA w0 W hp g cap hs) : W.cell? ⟨hp, 0, none⟩ = some (.slice (some ⟨g, 0, none⟩) hs.length cap) := (blk_cell1 h.box 0 rfl).1
theorem mem_swapH {hs : List Hd} {i j : Nat} (hi : i < hs.length) (hj : j < hs.length) {h : Hd} (hm : h ∈ swapH hs i j) : h ∈ hs := by
  have g : ∀ n, n < hs.length → hs.getD n zHd ∈ hs := by
    intro n hn
    rw [List.getD_eq_getElem?_getD, List.getElem?_eq_getElem hn]
    exact List.getElem_mem hn
  rcases List.mem_or_eq_of_mem_set hm with hm | rfl
  · rcases List.mem_or_eq_of_mem_set hm with hm | rfl
    · exact hm
    · exact g j hj
  · exact g i hi
theorem HA.swap {w0 W : World} {hp g cap : Nat} {hs : List Hd} (h : HA w0 W hp g cap hs) (i j : Nat) (hi : i < hs.length) (hj : j < hs.length) :
    Calls Try.prog 66 #[.slice (some ⟨g, 0, none⟩) hs.length cap, .int .i64 i, .int .i64 j] W fun e W' => e = .returned (.tuple #[]) ∧ HA w0 W' hp g cap (swapH hs i j) ∧ Oth w0.heap.size g hp W W' := by
  obtain ⟨rest, hr⟩ := h.row
  have ci := hcs_at hs rest i hi
  have cj := hcs_at hs rest j hj
  refine (heads_Swap_calls g hs.length cap i j _ hi hj h.small _ _ _ _ _ _ _ _ W hr ci.1 ci.2 cj.1 cj.2).mono ?_
  rintro e W' ⟨rfl, hr', ho⟩
  rw [swapL_eq hs rest i j hi hj] at hr'
  have ho0 := ho w0.heap.size hp h.gB
  refine ⟨rfl, ⟨h.below.trans ho0.below, h.hpB, h.gB, h.ne, by rw [swapH_length]; exact h.capB, by rw [swapH_length]; exact h.small, ?_, ⟨rest, hr'⟩, fun x hx => h.lists x (mem_swapH hi hj hx)⟩, ho0⟩
  rw [swapH_length]
  exact ((ho 0 g (Nat.zero_le _)).same hp (Array.getElem?_eq_some_iff.1 h.box).1 h.ne h.ne).trans h.box
theorem HA.row57 {w0 W : World} {hp g cap : Nat} {hs : List Hd} (h : HA w0 W hp g cap hs) : Kd.C k57 W (some ⟨g, 0, none⟩) (hs.map Hd.val).length (hs.map Hd.val) := by
  obtain ⟨rest, hr⟩ := h.row
  refine ⟨rfl, by have := h.small; simp; omega, fun _ => ⟨⟨g, 0, none⟩, rfl, ?_⟩⟩
  intro j p hj
  obtain ⟨hd, hhd, rfl⟩ := (List.getElem?_map ..).symm.trans hj |> Option.map_eq_some_iff.1
  have hjl : j < hs.length := (List.getElem?_eq_some_iff.1 hhd).1
  have ed : hs.getD j zHd = hd := by rw [List.getD_eq_getElem?_getD, hhd]; rfl
  obtain ⟨c0, c1⟩ := hcs_at hs rest j hjl
  rw [ed] at c0 c1
  have hl := h.lists hd (List.mem_of_getElem? hhd)
  refine ⟨hd.cells, rfl, k57_mk W hd.val hl.2 (Kd.C_below hl.1 h.below), ?_⟩
  intro i u hi
  have e : (⟨g, 0, none⟩ : Addr).add (j * 2 + i) = ⟨g, j * 2 + i, none⟩ := by
    simp only [Addr.add, Nat.zero_add]
    split
    · rename_i h0; rw [h0]
    · rfl
  show W.cell? ((⟨g, 0, none⟩ : Addr).add (j * 2 + i)) = _
  rw [e]
  match i, hi with
  | 0, hi => obtain rfl := Option.some.inj hi; exact (blk_cell1 hr _ (by simpa using c0)).1
  | 1, hi => obtain rfl := Option.some.inj hi; exact (blk_cell1 hr _ (by simpa using c1)).1
  | n + 2, hi => simp [Hd.cells] at hi
/-! ### which head is less -/
def cmpOf (a b : S24) : Int :=
  if Lib.compareBytes a.f0.data.toList b.f0.data.toList ≠ 0 then Lib.compareBytes a.f0.data.toList b.f0.data.toList else if b.f1 < a.f1 then -1 else if b.f1 > a.f1 then 1 else 0
theorem compare_eq (k : Nat) (a b : S24) : merge_compare.f (k + 3) a.f0 a.f1 a.f2 a.f3 b.f0 b.f1 b.f2 b.f3 = some (cmpOf a b) := by
  have e : cmp_Compare_uint64.f b.f1 a.f1 = some (if b.f1 < a.f1 then -1 else if b.f1 > a.f1 then 1 else 0) := by
    unfold cmp_Compare_uint64.f cmp_isNaN_uint64.f
    simp only [bne_self_eq_false, Option.bind_some, Bool.false_eq_true, if_false]
    split
    · rfl
    · split <;> rfl
  unfold merge_compare.f strings_Compare.f cmpOf
  rw [Option.bind_some, e, Option.bind_some]
  generalize Lib.compareBytes a.f0.data.toList b.f0.data.toList = x
  generalize (if b.f1 < a.f1 then (-1 : Int) else if b.f1 > a.f1 then 1 else 0) = y
  have h1 : rd [x, y] 0 = x := rfl
  have h2 : rd [x, y] 1 = y := rfl
  have w1 : wrap64 1 = 1 := by unfold wrap64; omega
  have w2 : wrap64 2 = 2 := by unfold wrap64; omega
  unfold cmp_Or_int.f
  simp only [cmp_Or_int.l0, List.length_cons, List.length_nil]
  by_cases hx : x = 0
  · subst hx
    by_cases hy : y = 0
    · subst hy; simp [h1, h2, w1, w2]
    · simp [h1, h2, w1, w2, hy]
  · simp [h1, hx]
def lessH (a b : Hd) : Bool := decide (cmpOf (rd_T24 a.l 0) (rd_T24 b.l 0) < 0) || (decide (cmpOf (rd_T24 a.l 0) (rd_T24 b.l 0) = 0) && decide (a.k < b.k))
theorem rd57 (hs : List Hd) (i : Nat) (hi : i < hs.length) : rd_T57 (hs.map Hd.val) (i : Int) = (hs.getD i zHd).val := by
  simp only [rd_T57, Int.toNat_natCast, List.getD_eq_getElem?_getD, List.getElem?_map, List.getElem?_eq_getElem hi]
  rfl
theorem less_eq (hs : List Hd) (i j : Nat) (hi : i < hs.length) (hj : j < hs.length) (pi : 0 < (hs.getD i zHd).l.length) (pj : 0 < (hs.getD j zHd).l.length) :
    merge_heads_Less.f 3 (hs.map Hd.val) i j = some (lessH (hs.getD i zHd) (hs.getD j zHd)) := by
  unfold merge_heads_Less.f
  rw [rd57 hs i hi, rd57 hs j hj]
  have e := compare_eq 0 (rd_T24 (hs.getD i zHd).l 0) (rd_T24 (hs.getD j zHd).l 0)
  have c1 : (0 : Int) ≤ (i : Int) := Int.natCast_nonneg _
  have c2 : (0 : Int) ≤ (j : Int) := Int.natCast_nonneg _
  have c3 : (i : Int) < ((hs.map Hd.val).length : Int) := by simp; exact hi
  have c4 : (j : Int) < ((hs.map Hd.val).length : Int) := by simp; exact hj
  have c5 : (0 : Int) < (((hs.getD i zHd).val.f0).length : Int) := by show (0 : Int) < ((hs.getD i zHd).l.length : Int); omega
  have c6 : (0 : Int) < (((hs.getD j zHd).val.f0).length : Int) := by show (0 : Int) < ((hs.getD j zHd).l.length : Int); omega
  rw [if_pos c1, if_pos c3, if_pos c5, if_pos c2, if_pos c4, if_pos c6]
  show (merge_compare.f 3 (rd_T24 (hs.getD i zHd).l 0).f0 (rd_T24 (hs.getD i zHd).l 0).f1 (rd_T24 (hs.getD i zHd).l 0).f2 (rd_T24 (hs.getD i zHd).l 0).f3 (rd_T24 (hs.getD j zHd).l 0).f0 (rd_T24 (hs.getD j zHd).l 0).f1 (rd_T24 (hs.getD j zHd).l 0).f2 (rd_T24 (hs.getD j zHd).l 0).f3).bind _ = _
  rw [e, Option.bind_some]
  unfold lessH
  generalize cmpOf (rd_T24 (hs.getD i zHd).l 0) (rd_T24 (hs.getD j zHd).l 0) = c
  by_cases h1 : c < 0
  · rw [if_pos h1, decide_eq_true h1]; rfl
  · rw [if_neg h1, decide_eq_false h1]
    by_cases h2 : c = 0
    · rw [if_pos h2, decide_eq_true h2]; rfl
    · rw [if_neg h2, decide_eq_false h2]; rfl
theorem HA.less {w0 W : World} {hp g cap : Nat} {hs : List Hd} (h : HA w0 W hp g cap hs) (i j : Nat) (hi : i < hs.length) (hj : j < hs.length) (pi : 0 < (hs.getD i zHd).l.length) (pj : 0 < (hs.getD j zHd).l.length) :
    Calls Try.prog 64 #[.slice (some ⟨g, 0, none⟩) hs.length cap, .int .i64 i, .int .i64 j] W fun e W' => e = .returned (.bool (lessH (hs.getD i zHd) (hs.getD j zHd))) ∧ HA w0 W' hp g cap hs ∧ Oth w0.heap.size g hp W W' := by
  have hc := merge_heads_Less.calls 3 (some ⟨g, 0, none⟩) cap (hs.map Hd.val) i j _ W h.row57 (by rw [List.length_map]; exact h.capB) (less_eq hs i j hi hj pi pj)
  rw [List.length_map] at hc
  refine hc.mono ?_
  rintro e W' ⟨rfl, hb⟩
  exact ⟨rfl, h.keep hb, Oth.of_below hb h.below.size⟩
theorem HA.mLess {w0 W : World} {hp g cap : Nat} {hs : List Hd} (h : HA w0 W hp g cap hs) : (method 197 53 (.pointer (some ⟨hp, 0, none⟩)) "Less").run Try.prog W = .ok (64, .slice (some ⟨g, 0, none⟩) hs.length cap) W := by
  have e := meth_less ⟨hp, 0, none⟩ W
  rw [Sem.run_bind, load55 _ _ _ h.cell] at e
  exact e
theorem HA.mSwap {w0 W : World} {hp g cap : Nat} {hs : List Hd} (h : HA w0 W hp g cap hs) : (method 197 53 (.pointer (some ⟨hp, 0, none⟩)) "Swap").run Try.prog W = .ok (66, .slice (some ⟨g, 0, none⟩) hs.length cap) W := by
  have e := meth_swap ⟨hp, 0, none⟩ W
  rw [Sem.run_bind, load55 _ _ _ h.cell] at e
  exact e
theorem HA.mLen {w0 W : World} {hp g cap : Nat} {hs : List Hd} (h : HA w0 W hp g cap hs) : (method 197 53 (.pointer (some ⟨hp, 0, none⟩)) "Len").run Try.prog W = .ok (30, .slice (some ⟨g, 0, none⟩) hs.length cap) W := by
  have e := meth_len ⟨hp, 0, none⟩ W
  rw [Sem.run_bind, load55 _ _ _ h.cell] at e
  exact e
theorem mPop (a : Addr) (W : World) : (method 197 53 (.pointer (some a)) "Pop").run Try.prog W = .ok (65, .pointer (some a)) W := meth_pop a W
theorem HA.less' {w0 W : World} {hp g cap : Nat} {hs : List Hd} (h : HA w0 W hp g cap hs) (i j : Nat) (x y : Int) (hx : x = i) (hy : y = j) (hi : i < hs.length) (hj : j < hs.length) (pi : 0 < (hs.getD i zHd).l.length) (pj : 0 < (hs.getD j zHd).l.length) (b : Bool) (hb : lessH (hs.getD i zHd) (hs.getD j zHd) = b) :
    Calls Try.prog 64 #[.slice (some ⟨g, 0, none⟩) hs.length cap, .int .i64 x, .int .i64 y] W fun e W' => e = .returned (.bool b) ∧ HA w0 W' hp g cap hs ∧ Oth w0.heap.size g hp W W' := by
  subst hx hy hb
  exact h.less i j hi hj pi pj
theorem HA.swap' {w0 W : World} {hp g cap : Nat} {hs : List Hd} (h : HA w0 W hp g cap hs) (i j : Nat) (x y : Int) (hx : x = i) (hy : y = j) (hi : i < hs.length) (hj : j < hs.length) :
    Calls Try.prog 66 #[.slice (some ⟨g, 0, none⟩) hs.length cap, .int .i64 x, .int .i64 y] W fun e W' => e = .returned (.tuple #[]) ∧ HA w0 W' hp g cap (swapH hs i j) ∧ Oth w0.heap.size g hp W W' := by
  subst hx hy
  exact h.swap i j hi hj
theorem swapH_pos {hs : List Hd} {i j n : Nat} (hn : n ≤ hs.length) (hi : i < n) (hj : j < n) (hpos : ∀ j, j < n → 0 < (hs.getD j zHd).l.length) : ∀ x, x < n → 0 < ((swapH hs i j).getD x zHd).l.length := by
  intro x hx
  have e : (swapH hs i j).getD x zHd = if j = x then hs.getD i zHd else if i = x then hs.getD j zHd else hs.getD x zHd := by
    unfold swapH
    simp only [List.getD_eq_getElem?_getD, List.getElem?_set, List.length_set]
    by_cases h1 : j = x
    · subst h1; rw [if_pos rfl, if_pos rfl, if_pos (by omega)]; rfl
    · rw [if_neg h1, if_neg h1]
      by_cases h2 : i = x
      · subst h2; rw [if_pos rfl, if_pos rfl, if_pos (by omega)]; rfl
      · rw [if_neg h2, if_neg h2]
  rw [e]
  split
  · exact hpos i hi
  · split
    · exact hpos j hj
    · exact hpos x hx
end Go.Proofs.Ytdpnhnfhobmopaa.P
