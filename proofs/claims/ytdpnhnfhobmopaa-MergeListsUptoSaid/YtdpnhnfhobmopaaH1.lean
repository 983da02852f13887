/- Contracts proved by hand: merge.Merge. -/
import Derived.Test.YtdpnhnfhobmopaaH1d
namespace Go.Proofs.Ytdpnhnfhobmopaa.P
open Go.RowKit Go.Proofs.YtdpnhnfhobmopaaW.PrintWords Go.Proofs.YtdpnhnfhobmopaaW.PrintLast Go.Proofs.YtdpnhnfhobmopaaW.PrintMore
set_option linter.unusedVariables false
set_option linter.unusedSimpArgs false

theorem alloc_heap_new' (w : World) (o : Obj) : (w.alloc o).heap[w.heap.size]? = some o := by
  show (w.heap.push o)[w.heap.size]? = some o
  simp
def Hd.key (h : Hd) : List S24 × Int := (h.l, h.k)
/-- The lists that are not empty, each with its place. -/
def gathTo (ls : List (List S24)) : Nat → List (List S24 × Int)
  | 0 => []
  | j + 1 => gathTo ls j ++ (if (rd_L5 ls (j : Int)).length = 0 then [] else [(rd_L5 ls (j : Int), (j : Int))])
theorem gathTo_length (ls : List (List S24)) (j : Nat) : (gathTo ls j).length ≤ j := by
  induction j with
  | zero => exact Nat.le_refl _
  | succ j ih => unfold gathTo; split <;> simp <;> omega
structure Gath (w W : World) (hp : Nat) (v : Value) (hs : List Hd) : Prop where
  below : Below w.heap.size w W
  hpB : w.heap.size ≤ hp
  box : W.heap[hp]? = some (.cells #[v] 55 (0, 0))
  own : Kd.R (Kd.raw 2) 57 W w.heap.size (fun k => k ≠ hp) v (hs.map Hd.cells)
  blk : ∃ g, v.ownBlock = some g
  lists : ∀ h ∈ hs, hOk w h
theorem Gath.keep {w W W' : World} {hp : Nat} {v : Value} {hs : List Hd} (h : Gath w W hp v hs) (hb : Below W.heap.size W W') : Gath w W' hp v hs :=
  ⟨h.below.trans (hb.mono h.below.size), h.hpB, (hb.block _ (Array.getElem?_eq_some_iff.1 h.box).1).trans h.box, Kd.R_below h.own hb, h.blk, h.lists⟩
theorem info57 : (Try.prog.info? 57).map (fun i => (i.zero, i.size, i.bytes)) = some (some (.agg #[.slice none 0 0, .int .i64 0]), 2, 32) := by kernel_rfl
def rawP (x c : List Value) : Prop := c = x ∧ c.length = 2 ∧ ∀ u ∈ c, u.oneCell' = true
theorem hd_raw (h : Hd) : rawP h.cells h.cells := ⟨rfl, rfl, by intro u hu; simp [Hd.cells] at hu; rcases hu with rfl | rfl <;> rfl⟩
theorem new_row (w1 : World) (h : Hd) : ReadsRow rawP 2 (w1.alloc (.cells #[.slice h.A h.l.length h.c, .int .i64 h.k] 57)) (some ⟨w1.heap.size, 0, none⟩) 1 [h.cells] := by
  refine ⟨rfl, by decide, fun _ => ⟨_, rfl, ?_⟩⟩
  intro j p hj
  have hj0 : j = 0 := by
    have := (List.getElem?_eq_some_iff.1 hj).1
    simp at this
    exact this
  subst hj0
  obtain rfl := Option.some.inj hj
  refine ⟨h.cells, rfl, hd_raw h, ?_⟩
  intro i u hi
  have hc := World.cell?_alloc_new w1 #[.slice h.A h.l.length h.c, .int .i64 h.k] 57 i
  match i, hi with
  | 0, hi => exact hc.trans hi
  | 1, hi => exact hc.trans hi
  | n + 2, hi => simp [Hd.cells] at hi
theorem Gath.next {w w1 w2 : World} {hp : Nat} {v v2 : Value} {hs : List Hd} (h : Gath w w1 hp v hs) (x : Hd) (hx : hOk w x) (ho : Kd.R (Kd.raw 2) 57 w2 w.heap.size (fun k => k ≠ hp) v2 (hs.map Hd.cells ++ [x.cells])) (hb : Below w.heap.size w w2)
    (hbx : w2.heap[hp]? = some (.cells #[v] 55 (0, 0))) (hat : ∃ g, v2.ownBlock = some g) : Gath w (w2.setCell ⟨hp, 0, none⟩ v2) hp v2 (hs ++ [x]) := by
  refine ⟨hb.setCell (p := ⟨hp, 0, none⟩) h.hpB _, h.hpB, blk_set hbx 0 v2, ?_, hat, ?_⟩
  · rw [List.map_append]
    exact Kd.R_move ho (fun k hk => Below.heap_setCell _ _ _ _ hk)
  · intro y hy
    rcases List.mem_append.1 hy with hy | hy
    · exact h.lists y hy
    · obtain rfl := List.mem_singleton.1 hy; exact hx
theorem reps_flat : ∀ (ps : List (List Value)) (inner : List Value), inner.length = ps.length * 2 → (∀ (j : Nat) (p : List Value), ps[j]? = some p → (inner.drop (j * 2)).take 2 = p) → inner = ps.flatten
  | [], inner, h, _ => by
    have : inner.length = 0 := by simpa using h
    simpa using List.eq_nil_of_length_eq_zero this
  | p :: ps, inner, h, hr => by
    have h0 := hr 0 p rfl
    have ih := reps_flat ps (inner.drop 2) (by rw [List.length_drop, h]; simp; omega) (fun j q hq => by
      have := hr (j + 1) q (by simpa using hq)
      rw [List.drop_drop]
      rw [show 2 + j * 2 = (j + 1) * 2 by omega]
      exact this)
    rw [List.flatten_cons, ← ih, ← h0]
    simp
theorem Gath.ha {w W : World} {hp : Nat} {v : Value} {hs : List Hd} (h : Gath w W hp v hs) (h3 : hs.length ≤ 3) : ∃ g cap, v = .slice (some ⟨g, 0, none⟩) hs.length cap ∧ HA w W hp g cap hs := by
  obtain ⟨g0, hg0⟩ := h.blk
  obtain ⟨hok, inner, ⟨hlen, hor⟩, hreps⟩ := h.own
  rcases hor with ⟨rfl, _⟩ | ⟨g, cap, cur, hv, hbg, hheap, hn, hcap, hcsz, htake⟩
  · cases hg0
  · rw [List.length_map] at hv hn hlen htake
    subst hv
    have hne : g ≠ hp := hok g rfl
    have htake' : cur.toList.take (hs.length * 2) = inner := htake
    have hin : inner = hcs hs := by
      have := reps_flat (hs.map Hd.cells) inner (by rw [List.length_map]; exact hlen) (fun j p hj => by
        have h1 := hreps.2 j p hj
        exact h1.1)
      rw [this]
      unfold hcs
      rw [List.flatMap_def]
    refine ⟨g, cap, rfl, ⟨h.below, h.hpB, hbg, fun e => hne e.symm, hn, by omega, h.box, ⟨cur.toList.drop (hs.length * 2), ?_⟩, h.lists⟩⟩
    rw [hheap]
    have e : cur.toList = hcs hs ++ cur.toList.drop (hs.length * 2) := by
      rw [← hin, ← htake', List.take_append_drop]
    have e2 : cur = (hcs hs ++ cur.toList.drop (hs.length * 2)).toArray := by
      rw [← e]
    rw [← e2]
/-- What is put out: a cell, unless it compares equal to the last one. -/
def outNext (out : List S24) (c : S24) : List S24 := if out.length = 0 then out ++ [c] else if cmpOf (rd_T24 out ((out.length : Int) - 1)) c = 0 then out else out ++ [c]
theorem below_cell {W W' : World} {a : Addr} {v : Value} (hb : Below W.heap.size W W') (h : W.cell? a = some v) : W'.cell? a = some v := (hb.cell (World.block_lt_of_cell? _ _ h)).trans h
theorem drawn_cell {W W' : World} {a : Addr} {v : Value} (h : Drawn0 W W') (hc : W.cell? a = some v) : W'.cell? a = some v := by
  obtain ⟨n, rfl⟩ := h.out
  exact hc
theorem R_drawn {α : Type} {d : Kd α} {e base : Nat} {ok : Nat → Prop} {v : Value} {xs : List α} {W W' : World} (h : Drawn0 W W') (hr : d.R e W base ok v xs) : d.R e W' base ok v xs := by
  obtain ⟨n, rfl⟩ := h.out
  exact Kd.R_drewN hr n
theorem HA.grown {w0 W W' : World} {hp g cap : Nat} {hs : List Hd} (h : HA w0 W hp g cap hs) {r : Option Nat} (hg : W.grownBy W' r) (hb : Below w0.heap.size w0 W') (h1 : some g ≠ r) (h2 : some hp ≠ r) : HA w0 W' hp g cap hs := by
  obtain ⟨rest, hr⟩ := h.row
  exact ⟨hb, h.hpB, h.gB, h.ne, h.capB, h.small, (hg.block _ (Array.getElem?_eq_some_iff.1 h.box).1 h2).trans h.box, ⟨rest, (hg.block _ (Array.getElem?_eq_some_iff.1 hr).1 h1).trans hr⟩, h.lists⟩
def cellP (x : S24) (c : List Value) : Prop := c = [.string x.f0, .int .u64 x.f1, .string x.f2, .bool x.f3]
theorem new_cell (w1 : World) (x : S24) : ReadsRow cellP 4 (w1.alloc (.cells #[.string x.f0, .int .u64 x.f1, .string x.f2, .bool x.f3] 24)) (some ⟨w1.heap.size, 0, none⟩) 1 [x] := by
  refine ⟨rfl, by decide, fun _ => ⟨_, rfl, ?_⟩⟩
  intro j p hj
  have hj0 : j = 0 := by
    have := (List.getElem?_eq_some_iff.1 hj).1
    simp at this
    exact this
  subst hj0
  obtain rfl := Option.some.inj hj
  refine ⟨[.string x.f0, .int .u64 x.f1, .string x.f2, .bool x.f3], rfl, rfl, ?_⟩
  intro i u hi
  have hc := World.cell?_alloc_new w1 #[.string x.f0, .int .u64 x.f1, .string x.f2, .bool x.f3] 24 i
  match i, hi with
  | 0, hi => exact hc.trans hi
  | 1, hi => exact hc.trans hi
  | 2, hi => exact hc.trans hi
  | 3, hi => exact hc.trans hi
  | n + 4, hi => simp at hi
theorem HA.setRoot {w0 W : World} {hp g cap : Nat} {h0 : Hd} {rest : List Hd} (h : HA w0 W hp g cap (h0 :: rest)) (x : Hd) (hx : hOk w0 x) (hk : x.k = h0.k) : HA w0 (W.setCell ⟨g, 0, none⟩ (.slice x.A x.l.length x.c)) hp g cap (x :: rest) := by
  obtain ⟨rs, hr⟩ := h.row
  refine ⟨h.below.setCell (p := ⟨g, 0, none⟩) h.gB _, h.hpB, h.gB, h.ne, h.capB, h.small, (Below.heap_setCell _ _ _ _ h.ne).trans h.box, ⟨rs, ?_⟩, ?_⟩
  · have h1 := blk_setL hr 0 (.slice x.A x.l.length x.c)
    rw [h1]
    have e : hcs (h0 :: rest) ++ rs = .slice h0.A h0.l.length h0.c :: .int .i64 h0.k :: (hcs rest ++ rs) := rfl
    rw [e, ← hk]
    rfl
  · intro y hy
    rcases List.mem_cons.1 hy with rfl | hy
    · exact hx
    · exact h.lists y (List.mem_cons_of_mem _ hy)
theorem R_oth {B g hp : Nat} {v : Value} {xs : List S24} {W W' : World} (h : Kd.R k24 24 W B (fun k => k ≠ hp ∧ k ≠ g) v xs) (ho : Oth B g hp W W') : Kd.R k24 24 W' B (fun k => k ≠ hp ∧ k ≠ g) v xs :=
  Kd.R_mono (Kd.R_move (Kd.R_bound h) (fun k hk => ho.same k hk.2.2.1 hk.1.2 hk.1.1)) (fun k hk => hk.1)
theorem swapH_rest (x : Hd) (rest : List Hd) (hp : ∀ h ∈ rest, 0 < h.l.length) : ∀ j, j < rest.length → 0 < ((swapH (x :: rest) 0 rest.length).getD j zHd).l.length := by
  intro j hj
  have e : (swapH (x :: rest) 0 rest.length).getD j zHd = if j = 0 then (x :: rest).getD rest.length zHd else (x :: rest).getD j zHd := by
    unfold swapH
    simp only [List.getD_eq_getElem?_getD, List.getElem?_set, List.length_set]
    rw [if_neg (by omega)]
    by_cases h2 : j = 0
    · subst h2; rw [if_pos rfl, if_pos rfl, if_pos (by simp)]; rfl
    · rw [if_neg (fun e => h2 e.symm), if_neg h2]
  have g : ∀ n, 0 < n → n ≤ rest.length → 0 < ((x :: rest).getD n zHd).l.length := by
    intro n h0 hn
    obtain ⟨n, rfl⟩ : ∃ n', n = n' + 1 := ⟨n - 1, by omega⟩
    have e2 : (x :: rest).getD (n + 1) zHd = rest[n] := by simp [List.getD_eq_getElem?_getD, List.getElem?_eq_getElem (show n < rest.length by omega)]
    rw [e2]
    exact hp _ (List.getElem_mem _)
  rw [e]
  split
  · exact g rest.length (by omega) (Nat.le_refl _)
  · exact g j (by omega) (by omega)
structure Steps (I : Nat → List Hd → List S24 → Prop) : Prop where
  len3 : ∀ {k hs out}, I k hs out → hs.length ≤ 3
  pos : ∀ {k hs out}, I k hs out → ∀ h ∈ hs, 0 < h.l.length
  room : ∀ {k hs out}, I k hs out → out.length < 2932031007402
  zero : ∀ {hs out}, I 0 hs out → hs = []
  pop : ∀ {k h0 rest out}, I (k + 1) (h0 :: rest) out → h0.l.length = 1 → ∀ ys : List Hd, ys.Perm rest → MinRoot ys → I k ys (outNext out (rd_T24 h0.l 0))
  fix : ∀ {k h0 rest out}, I (k + 1) (h0 :: rest) out → 1 < h0.l.length → ∀ (A : Option Addr) (c : Nat) (ys : List Hd), ys.Perm (⟨A, c, h0.l.drop 1, h0.k⟩ :: rest) → MinRoot ys → I k ys (outNext out (rd_T24 h0.l 0))
set_option maxHeartbeats 4000000 in
set_option maxRecDepth 100000 in
theorem merge_core (A0 : Option Addr) (c0 : Nat) (ls : List (List S24)) (w : World) (hr0 : Kd.C (Kd.slice 24 k24) w A0 ls.length ls) (hc0 : ls.length ≤ c0) (h3 : ls.length ≤ 3)
    (so : List S24 → Bool) (hso : ∀ l ∈ ls, ∃ k, merge_Sorted.f k l = some (so l)) (I : Nat → List Hd → List S24 → Prop) (st : Steps I) (K : Nat) (hI : (∀ l ∈ ls, so l = true) → ∀ hs ys : List Hd, hs.map Hd.key = gathTo ls ls.length → ys.Perm hs → MinRoot ys → I K ys []) :
    Calls Try.prog 17 #[.slice A0 ls.length c0] w fun e w' => ∃ (v0_ : Value) (r : List S24), e = .returned v0_ ∧ (((∃ l ∈ ls, so l = false) ∧ r = []) ∨ ((∀ l ∈ ls, so l = true) ∧ ∃ k, I k [] r)) ∧ Kd.R k24 24 w' w.heap.size (fun _ => True) v0_ r ∧ Below w.heap.size w w' := by
  have HR0 := Aside0.mk hr0
  have HSO := Aside0.mk hso
  have ST := Aside0.mk st
  have HI := Aside0.mk hI
  clear hr0 hso st hI
  have hg0 : Gath w ((w.alloc (.cells #[] 57)).alloc (.cells #[.slice (some ⟨w.heap.size, 0, none⟩) 0 0] 55)) (w.heap.size + 1) (.slice (some ⟨w.heap.size, 0, none⟩) 0 0) [] := by
    refine ⟨below_alloc (below_alloc (Below.refl _ _) _) _, by omega, ?_, ⟨?_, [], ⟨by simp, .inr ⟨w.heap.size, 0, #[], rfl, Nat.le_refl _, ?_, by simp, by decide, by simp, by simp⟩⟩, Reps.none _ _⟩, ⟨w.heap.size, rfl⟩, by simp⟩
    · have h := alloc_heap_new' (w.alloc (.cells #[] 57)) (.cells #[.slice (some ⟨w.heap.size, 0, none⟩) 0 0] 55)
      rw [World.size_alloc] at h
      exact h
    · intro k hk
      have : w.heap.size = k := by simpa [Value.ownBlock] using hk
      omega
    · exact (Below.heap_alloc _ _ _ (by simp)).trans (alloc_heap_new' w _)
  have HG0 := Aside0.mk hg0
  clear hg0
  go_enter Try.func17, Try.ntmps17
  go_wp2
  go_loopg [13] ls.length (fun kq v13 w' => ∃ (j : Nat) (v : Value) (hs : List Hd), v13 = .int .i64 j ∧ j ≤ ls.length ∧ Aside0 (kq = ls.length - j) ∧ Aside0 (Gath w w' (w.heap.size + 1) v hs) ∧ Aside0 (hs.map Hd.key = gathTo ls j) ∧ Aside0 (∀ i : Nat, i < j → so (rd_L5 ls (i : Int)) = true))
  case atStart => exact ⟨0, _, [], rfl, Nat.zero_le _, ⟨rfl⟩, HG0, ⟨rfl⟩, ⟨fun i hi => absurd hi (Nat.not_lt_zero _)⟩⟩
  case round =>
    clear HG0
    obtain ⟨j, v, hs, rfl, hj, HK, HG, HKEY, HS⟩ := hrel
    by_cases hlt : j < ls.length
    · obtain ⟨ad, A1, c1, ea, hx, hl1, hC1⟩ := at_L5 HR0.out (j : Int) (by omega) (by omega)
      subst ea
      rw [Int.toNat_natCast] at hx
      have hxw : wr.cell? (ad.add j) = some (.slice A1 (rd_L5 ls (j : Int)).length c1) := (HG.out.below.cell (World.block_lt_of_cell? w _ hx)).trans hx
      obtain ⟨l, hl⟩ : ∃ l, rd_L5 ls (j : Int) = l := ⟨_, rfl⟩
      have HL := Aside0.mk hl
      rw [hl] at hxw hl1 hC1
      have hmem : l ∈ ls := by
        rw [← hl]
        simp only [rd_L5, Int.toNat_natCast, List.getD_eq_getElem?_getD, List.getElem?_eq_getElem hlt]
        exact List.getElem_mem hlt
      obtain ⟨k, hk⟩ := HSO.out l hmem
      have HC1 := Aside0.mk hC1
      have HSK := Aside0.mk hk
      have HMEM := Aside0.mk hmem
      clear hl hx hC1 hk hmem
      have hjb : j ≤ 3 := by omega
      have hsl : hs.length ≤ 3 := by
        have h1 := congrArg List.length HKEY.out
        have h2 := gathTo_length ls j
        rw [List.length_map] at h1
        omega
      have hgk : gk ≠ 0 := by have := HK.out; omega
      obtain ⟨k1, rfl⟩ : ∃ k1, gk = k1 + 1 := ⟨gk - 1, by omega⟩
      have HK1 := Aside0.mk (show k1 = ls.length - (j + 1) by have := HK.out; omega)
      by_cases hs1 : so l = true
      · rw [hs1] at HSK
        by_cases hpos : 0 < l.length
        · go_wp2_with (first | (go_at_call 14; refine (merge_Sorted.calls k A1 c1 l true _ (Kd.C_below HC1.out HG.out.below) hl1 HSK.out).mono ?_; rintro e w1 ⟨rfl, hb⟩; have HG1 := Aside0.mk (HG.out.keep hb); have hbx := (blk_cell1 HG1.out.box 0 rfl).1; clear hb) | ((with_reducible refine gate_builtin (b := .append) (xs := #[.tmp 27, .tmp 31]) rfl ?_); at_builtin; refine Kd.R_append_rows (Kd.raw 2) (Rr := rawP) (w0 := w) w.heap.size rfl (.tmp 27) (.tmp 31) 55 57 (.agg #[.slice none 0 0, .int .i64 0]) 32 rfl Try.underlying55 info57 rfl (by decide) (by decide) v (hs.map Hd.cells) [Hd.cells ⟨A1, c1, l, (j : Int)⟩] (some ⟨w1.heap.size, 0, none⟩) 1 1 (fun k_ => k_ ≠ w.heap.size + 1) (fun _ => False) rfl rfl (Kd.R_alloc HG1.out.own _) (new_row w1 ⟨A1, c1, l, (j : Int)⟩) (fun _ _ h_ => h_) (fun _ h_ => h_.elim) (fun k_ hk_ => by have h_ := (Array.getElem?_eq_some_iff.1 HG1.out.box).1; rw [World.size_alloc] at hk_; omega) (below_alloc HG1.out.below _) (by have h_ := HG1.out.below.size; rw [World.size_alloc]; omega) (by rw [List.length_map]; omega) ?_; intro v2 w2 ho2 hb2 hg2 hat2; obtain ⟨Av2, nv2, cv2, rfl⟩ : ∃ A_ n_ c_, v2 = .slice A_ n_ c_ := (by obtain ⟨A_, c_, e_⟩ := Kd.R_slice ho2; exact ⟨A_, _, c_, e_⟩); have hbx2 := (hg2.block (w.heap.size + 1) (by have h_ := (Array.getElem?_eq_some_iff.1 HG1.out.box).1; rw [World.size_alloc]; omega) (fun e_ => HG1.out.own.1 _ e_.symm rfl)).trans ((Below.heap_alloc _ _ _ (Array.getElem?_eq_some_iff.1 HG1.out.box).1).trans HG1.out.box); have HO2 := Aside0.mk ho2; have HB2 := Aside0.mk hb2; have HAT := Aside0.mk hat2; have HBX := Aside0.mk hbx2; have hcl2 := (blk_cell1 hbx2 0 rfl).1; have hfr2 := (blk_cell1 hbx2 0 rfl).2; clear ho2 hb2 hg2 hat2 hbx2))
          go_roundg k1
          case measure => omega
          case rel =>
            refine ⟨j + 1, _, hs ++ [⟨A1, c1, l, (j : Int)⟩], by first | rfl | (congr 1; omega) | (simp; done), by omega, HK1, ⟨HG1.out.next ⟨A1, c1, l, (j : Int)⟩ ⟨HC1.out, hl1⟩ HO2.out HB2.out HBX.out ?_⟩, ⟨?_⟩, ⟨fun i hi => by rcases Nat.lt_succ_iff_lt_or_eq.1 hi with h_ | h_; exact HS.out i h_; subst h_; rw [HL.out]; exact hs1⟩⟩
            · rcases HAT.out with h_ | ⟨b_, h_, _⟩
              · obtain ⟨g_, hg_⟩ := HG1.out.blk; exact ⟨g_, h_.trans hg_⟩
              · exact ⟨b_, h_⟩
            · rw [List.map_append, HKEY.out]
              show gathTo ls j ++ [(l, (j : Int))] = gathTo ls j ++ _
              rw [HL.out, if_neg (by omega)]
        · go_wp2_with (go_at_call 14; refine (merge_Sorted.calls k A1 c1 l true _ (Kd.C_below HC1.out HG.out.below) hl1 HSK.out).mono ?_; rintro e w1 ⟨rfl, hb⟩; have HG1 := Aside0.mk (HG.out.keep hb); clear hb)
          go_roundg k1
          case measure => omega
          case rel =>
            refine ⟨j + 1, v, hs, by first | rfl | (congr 1; omega) | (simp; done), by omega, HK1, HG1, ⟨?_⟩, ⟨fun i hi => by rcases Nat.lt_succ_iff_lt_or_eq.1 hi with h_ | h_; exact HS.out i h_; subst h_; rw [HL.out]; exact hs1⟩⟩
            rw [HKEY.out]
            show gathTo ls j = gathTo ls j ++ _
            rw [HL.out, if_pos (by omega), List.append_nil]
      · have hs2 := Bool.eq_false_iff.mpr hs1
        rw [hs2] at HSK
        go_wp2_with (go_at_call 14; refine (merge_Sorted.calls k A1 c1 l false _ (Kd.C_below HC1.out HG.out.below) hl1 HSK.out).mono ?_; rintro e w1 ⟨rfl, hb⟩; have HG1 := Aside0.mk (HG.out.keep hb); clear hb)
        go_ret
        exact ⟨_, [], rfl, .inl ⟨⟨l, HMEM.out, hs2⟩, rfl⟩, Kd.R_nil _ _ _ _ _, HG1.out.below⟩
    · obtain rfl : j = ls.length := by omega
      have hsl : hs.length ≤ 3 := by
        have h1 := congrArg List.length HKEY.out
        have h2 := gathTo_length ls ls.length
        rw [List.length_map] at h1
        omega
      obtain ⟨g, cap, hv, ha⟩ := HG.out.ha hsl
      have HA0 := Aside0.mk ha
      obtain ⟨r0, hr0, hperm, hmin⟩ := init_min hs hsl
      have HR1 := Aside0.mk hr0
      have HALL := Aside0.mk (show ∀ l ∈ ls, so l = true from by
        intro l hl
        obtain ⟨i, hi, rfl⟩ := List.mem_iff_getElem.1 hl
        have h_ := HS.out i hi
        have e_ : rd_L5 ls (i : Int) = ls[i] := by simp only [rd_L5, Int.toNat_natCast, List.getD_eq_getElem?_getD, List.getElem?_eq_getElem hi]; rfl
        rw [e_] at h_
        exact h_)
      have HI0 := Aside0.mk (HI.out HALL.out hs r0 HKEY.out hperm hmin)
      have hpos : ∀ j, j < hs.length → 0 < (hs.getD j zHd).l.length := by
        intro j hj
        rw [List.getD_eq_getElem?_getD, List.getElem?_eq_getElem hj]
        exact ST.out.pos HI0.out _ (hperm.mem_iff.2 (List.getElem_mem hj))
      have HPOS := Aside0.mk hpos
      have HPERM := Aside0.mk hperm
      clear ha hr0 hperm hmin hpos hv
      go_wp2_with (first | (go_at_call 29; refine (init_calls 3 w _ (w.heap.size + 1) g cap hs hsl HPOS.out HA0.out r0 HR1.out).mono ?_; rintro e w1 ⟨rfl, ha1, ho1⟩; have HA1 := Aside0.mk ha1; clear ha1 ho1))
      have hO : Kd.R k24 24 w1 w.heap.size (fun k => k ≠ w.heap.size + 1 ∧ k ≠ g) (.slice none 0 0) [] := Kd.R_nil _ _ _ _ _
      have HO := Aside0.mk hO
      clear hO
      go_loopg [6] K (fun kq v6 w' => ∃ (hs : List Hd) (out : List S24), Aside0 (HA w w' (w.heap.size + 1) g cap hs) ∧ Aside0 (Kd.R k24 24 w' w.heap.size (fun k => k ≠ w.heap.size + 1 ∧ k ≠ g) v6 out) ∧ Aside0 (I kq hs out))
      case atStart => exact ⟨r0, [], HA1, HO, HI0⟩
      case round =>
        clear HA1 HO HI0 HA0 HPOS HPERM HR1 HG HKEY HS HK
        obtain ⟨hs, out, HA1, HO, HI1⟩ := hrel
        cases hs with
        | nil =>
          have hcell := HA1.out.cell
          go_wp2_with (first | (go_at_call 30; refine (len_calls g cap 0 _ (Nat.zero_le _)).mono ?_; rintro e w2 ⟨rfl, hd⟩; have HD := Aside0.mk hd; clear hd))
          go_ret
          exact ⟨_, out, rfl, .inr ⟨HALL.out, _, HI1.out⟩, Kd.R_mono (R_drawn HD.out HO.out) (fun _ _ => trivial), (HA1.out.drawn HD.out).below⟩
        | cons h0 rest =>
          cases gk with
          | zero => exact absurd (ST.out.zero HI1.out) (by simp)
          | succ k1 =>
          obtain ⟨Ao, co, rfl⟩ := Kd.R_slice HO.out
          have hcell := HA1.out.cell
          have hl3 := ST.out.len3 HI1.out
          have hp0 := ST.out.pos HI1.out h0 (by simp)
          have hlen : (h0 :: rest).length = rest.length + 1 := rfl
          rw [hlen] at hcell hl3
          obtain ⟨rs, hrow⟩ := HA1.out.row
          have c00 := (blk_cell1 hrow 0 (v := .slice h0.A h0.l.length h0.c) rfl).1
          obtain ⟨hC0, hcap0⟩ := HA1.out.lists h0 (by simp)
          obtain ⟨ad0, ea0, hx0, hx1, hx2, hx3⟩ := at_T24 (Kd.C_below hC0 HA1.out.below) 0 (Int.le_refl 0) (by omega)
          have HC0 := Aside0.mk hC0
          have HROW := Aside0.mk hrow
          clear hC0 hrow
          rw [ea0] at c00
          obtain ⟨x0, hx⟩ : ∃ x, rd_T24 h0.l 0 = x := ⟨_, rfl⟩
          rw [hx] at hx0 hx1 hx2 hx3
          have ez : ad0.add ((0 : Int).toNat * 4) = ad0 := by simp [Addr.add]
          rw [ez] at hx0 hx1 hx2 hx3
          clear ez
          have HX := Aside0.mk hx
          clear hx
          have hroom := ST.out.room HI1.out
          go_wp2_with (first | (go_at_call 30; refine (len_calls g cap (rest.length + 1) _ (by have h_ := HA1.out.capB; simpa using h_)).mono ?_; rintro e w2 ⟨rfl, hd⟩; have HA2 := Aside0.mk (HA1.out.drawn hd); have HO2 := Aside0.mk (R_drawn hd HO.out); have hcell2 := drawn_cell hd hcell; have c002 := drawn_cell hd c00; have hx02 := drawn_cell hd hx0; have hx12 := drawn_cell hd hx1; have hx22 := drawn_cell hd hx2; have hx32 := drawn_cell hd hx3; clear hd HA1 HO))
          have HA3 := Aside0.mk (HA2.out.keep (below_alloc (Below.refl _ _) (.cells #[.string x0.f0, .int .u64 x0.f1, .string x0.f2, .bool x0.f3] 24)))
          have HO3 := Aside0.mk (Kd.R_alloc HO2.out (.cells #[.string x0.f0, .int .u64 x0.f1, .string x0.f2, .bool x0.f3] 24))
          have HT := Aside0.mk (alloc_heap_new' w2 (.cells #[.string x0.f0, .int .u64 x0.f1, .string x0.f2, .bool x0.f3] 24))
          clear HA2 HO2 hcell2 c002 hx02 hx12 hx22 hx32 hcell c00 hx0 hx1 hx2 hx3
          obtain ⟨q, hq⟩ : ∃ q, w2.heap.size = q := ⟨_, rfl⟩
          rw [hq] at HT ⊢
          generalize w2.alloc (.cells #[.string x0.f0, .int .u64 x0.f1, .string x0.f2, .bool x0.f3] 24) = w3 at HA3 HO3 HT ⊢
          clear hq
          have t0 := (blk_cell1 HT.out 0 rfl).1
          have t1 := (blk_cell1 HT.out 1 rfl).1
          have t2 := (blk_cell1 HT.out 2 rfl).1
          have t3 := (blk_cell1 HT.out 3 rfl).1
          go_cut [64] (fun v64 wc => ∃ b : Bool, v64 = .bool b ∧ Aside0 (b = (decide (out.length = 0) || decide (cmpOf (rd_T24 out ((out.length : Int) - 1)) x0 ≠ 0))) ∧ Aside0 (HA w wc (w.heap.size + 1) g cap (h0 :: rest)) ∧ Aside0 (Kd.R k24 24 wc w.heap.size (fun k => k ≠ w.heap.size + 1 ∧ k ≠ g) (.slice Ao out.length co) out) ∧ Aside0 (wc.heap[q]? = some (.cells #[.string x0.f0, .int .u64 x0.f1, .string x0.f2, .bool x0.f3] 24 (0, 0))))
          case first =>
            by_cases hno : out.length = 0
            · obtain rfl := List.eq_nil_of_length_eq_zero hno
              go_region
              go_wp2
              go_meet
              case rel => exact ⟨true, rfl, ⟨rfl⟩, ⟨HA3.out.keep (below_drew1 (Below.refl _ _))⟩, ⟨Kd.R_drew HO3.out⟩, HT⟩
            · obtain ⟨m, hm⟩ : ∃ m, out.length = m + 1 := ⟨out.length - 1, by omega⟩
              have HM := Aside0.mk hm
              have hne : ¬ ((out.length : Int) = 0) := by omega
              obtain ⟨ad1, ea1, o0, o1, o2, o3⟩ := at_T24 (Kd.R_reads' HO3.out).2.2 (m : Int) (Int.natCast_nonneg _) (by omega)
              subst ea1
              rw [Int.toNat_natCast] at o0 o1 o2 o3
              obtain ⟨y0, hy⟩ : ∃ y, rd_T24 out (m : Int) = y := ⟨_, rfl⟩
              rw [hy] at o0 o1 o2 o3
              have HY := Aside0.mk hy
              clear hy
              have e5 : IntKind.i64.wrap ((out.length : Int) - 1) = (m : Int) := by rw [i64_w]; unfold wrap64; omega
              have e6 : wrap64 ((out.length : Int) - 1) = (m : Int) := by unfold wrap64; omega
              have p1 : (0 ≤ (m : Int)) = True := eq_true (Int.natCast_nonneg _)
              have q1 : ((m : Int) < (out.length : Int)) = True := eq_true (by omega)
              have z2 : decide ((out.length : Int) = 0) = false := decide_eq_false hne
              have hn1 : (out = []) = False := eq_false (fun e => by rw [e] at hno; exact hno rfl)
              have hn2 : (out.length = 0) = False := eq_false hno
              have hn3 : ((out.length : Int) = 0) = False := eq_false hne
              have z1 : ((out.length : Int) == 0) = false := beq_false_of_ne hne
              clear hm hno hne
              go_region_held3 (fun w' => w'.cell? (ad1.add (m * 4)) = some (.string y0.f0) ∧ w'.cell? ⟨(ad1.add (m * 4)).block, (ad1.add (m * 4)).off + 1, none⟩ = some (.int .u64 y0.f1) ∧ w'.cell? ⟨(ad1.add (m * 4)).block, (ad1.add (m * 4)).off + 2, none⟩ = some (.string y0.f2) ∧ w'.cell? ⟨(ad1.add (m * 4)).block, (ad1.add (m * 4)).off + 3, none⟩ = some (.bool y0.f3) ∧ w'.cell? ⟨q, 0, none⟩ = some (.string x0.f0) ∧ w'.cell? ⟨q, 1, none⟩ = some (.int .u64 x0.f1) ∧ w'.cell? ⟨q, 2, none⟩ = some (.string x0.f2) ∧ w'.cell? ⟨q, 3, none⟩ = some (.bool x0.f3)) (first | exact ⟨o0, o1, o2, o3, t0, t1, t2, t3⟩ | exact ⟨o0', o1', o2', o3', t0', t1', t2', t3'⟩) (first | (go_at_call 27; refine (merge_compare.calls 3 y0.f0 y0.f1 y0.f2 y0.f3 x0.f0 x0.f1 x0.f2 x0.f3 (cmpOf y0 x0) _ (compare_eq 0 y0 x0)).mono ?_; rintro e w4 ⟨rfl, hb⟩; have o0' := below_cell hb o0; have o1' := below_cell hb o1; have o2' := below_cell hb o2; have o3' := below_cell hb o3; have t0' := below_cell hb t0; have t1' := below_cell hb t1; have t2' := below_cell hb t2; have t3' := below_cell hb t3; have HB4 := Aside0.mk (show Below w3.heap.size w3 w4 from (below_drew1 (Below.refl _ _)).trans hb); clear hb))
              go_wp2
              go_meet
              case rel =>
                have ecm : rd_T24 out ((out.length : Int) - 1) = y0 := by rw [show (out.length : Int) - 1 = (m : Int) by have := HM.out; omega]; exact HY.out
                refine ⟨cmpOf y0 x0 != 0, rfl, ⟨?_⟩, ⟨HA3.out.keep HB4.out⟩, ⟨Kd.R_below HO3.out HB4.out⟩, ⟨(HB4.out.block _ (Array.getElem?_eq_some_iff.1 HT.out).1).trans HT.out⟩⟩
                rw [ecm, HM.out]
                by_cases hz : cmpOf y0 x0 = 0 <;> simp [hz]
          case rest =>
            go_upto_if 64 with fail
            obtain ⟨b, rfl, HBB, HA4, HO4, HT4⟩ := hcut
            go_cut [6] (fun v6 wc => ∃ (Ao' : Option Addr) (co' : Nat), v6 = .slice Ao' (outNext out x0).length co' ∧ Aside0 (HA w wc (w.heap.size + 1) g cap (h0 :: rest)) ∧ Aside0 (Kd.R k24 24 wc w.heap.size (fun k => k ≠ w.heap.size + 1 ∧ k ≠ g) (.slice Ao' (outNext out x0).length co') (outNext out x0)))
            case first =>
              have t0 := (blk_cell1 HT4.out 0 rfl).1
              have t1 := (blk_cell1 HT4.out 1 rfl).1
              have t2 := (blk_cell1 HT4.out 2 rfl).1
              have t3 := (blk_cell1 HT4.out 3 rfl).1
              cases b with
              | true =>
                have eo : outNext out x0 = out ++ [x0] := by
                  have hb := HBB.out
                  unfold outNext
                  split
                  · rfl
                  · rename_i h1
                    split
                    · rename_i h2; rw [decide_eq_false h1, decide_eq_false (fun h => h h2)] at hb; exact absurd hb (by decide)
                    · rfl
                have EO := Aside0.mk eo
                clear eo
                go_wp2_with (first | ((with_reducible refine gate_builtin (b := .append) (xs := #[.tmp 65, .tmp 67]) rfl ?_); at_builtin; refine Kd.R_append_rows k24 (Rr := cellP) (w0 := w) w.heap.size rfl (.tmp 65) (.tmp 67) 25 24 (.agg #[(.string ⟨#[]⟩), (.int .u64 0), (.string ⟨#[]⟩), (.bool false)]) 48 rfl Try.underlying25 info24 rfl (by decide) (by decide) (.slice Ao out.length co) out [x0] (some ⟨wc.heap.size, 0, none⟩) 1 1 (fun k => k ≠ w.heap.size + 1 ∧ k ≠ g) (fun _ => False) rfl rfl (Kd.R_alloc HO4.out _) (new_cell wc x0) (fun x_ cs_ h_ => by rw [h_]; exact k24_mkM _ _ _ x_) (fun _ h_ => h_.elim) (fun k_ hk_ => by have h_ := (Array.getElem?_eq_some_iff.1 HA4.out.box).1; obtain ⟨r_, hr_⟩ := HA4.out.row; have h2_ := (Array.getElem?_eq_some_iff.1 hr_).1; rw [World.size_alloc] at hk_; exact ⟨by omega, by omega⟩) (below_alloc HA4.out.below _) (by have h_ := HA4.out.below.size; rw [World.size_alloc]; omega) (by omega) ?_; intro v2 w5 ho2 hb2 hg2 hat2; obtain ⟨Av2, cv2, rfl⟩ := Kd.R_slice ho2; have HO5 := Aside0.mk ho2; have HA5 := Aside0.mk ((HA4.out.keep (below_alloc (Below.refl _ _) _)).grown hg2 hb2 (fun e_ => (HO4.out.1 g e_.symm).2 rfl) (fun e_ => (HO4.out.1 _ e_.symm).1 rfl)); clear ho2 hb2 hg2 hat2))
                go_meet
                case rel => exact ⟨Av2, cv2, by rw [EO.out, List.length_append]; rfl, HA5, by rw [EO.out]; exact HO5⟩
              | false =>
                have eo : outNext out x0 = out := by
                  have hb := HBB.out
                  unfold outNext
                  split
                  · rename_i h1; rw [decide_eq_true h1] at hb; exact absurd hb (by simp)
                  · split
                    · rfl
                    · rename_i h1 h2; rw [decide_eq_true h2, Bool.or_true] at hb; exact absurd hb (by decide)
                go_wp2
                go_meet
                case rel => exact ⟨Ao, co, by rw [eo], HA4, by rw [eo]; exact HO4⟩
            case rest =>
              clear HA4 HO4 HT4 HBB HA3 HO3 HT
              obtain ⟨Ao', co', rfl, HA5, HO5⟩ := hcut
              have hb5 := HA5.out.cell
              rw [hlen] at hb5
              obtain ⟨rs5, hrow5⟩ := HA5.out.row
              have r5 := blk_cell1 hrow5 0 (v := .slice h0.A h0.l.length h0.c) rfl
              rw [ea0] at r5
              have r51 := r5.1
              have r52 := r5.2
              clear r5 hrow5
              obtain ⟨i24, hi24, _, hsz24, _⟩ := info_parts info24
              have hct := cut_from (P := Try.prog) 25 24 .i64 Try.underlying25 hi24 4 hsz24 (some ad0) h0.l.length h0.c 1 (by decide) (by omega)
              have hdr := Kd.C_drop (m := 1) (c := h0.c) HC0.out (by omega) hcap0
              rw [ea0] at hdr
              have e1 : (1 : Int).toNat = 1 := rfl
              rw [e1] at hct
              have hsz : k24.sz = 4 := rfl
              rw [hsz] at hdr
              obtain ⟨A', hA'⟩ : ∃ A', (if h0.c = 1 then some ad0 else (some ad0).map (·.add (1 * 4))) = A' := ⟨_, rfl⟩
              rw [hA'] at hct hdr
              clear hi24 hsz24 hA' hsz e1
              have HDR := Aside0.mk hdr
              clear hdr
              go_wp2
              go_region
              have el : (h0.l.drop 1).length = h0.l.length - 1 := List.length_drop
              have ha6 : HA w (wc.setCell ⟨g, 0, none⟩ (.slice A' (h0.l.length - 1) (h0.c - 1))).drew (w.heap.size + 1) g cap (⟨A', h0.c - 1, h0.l.drop 1, h0.k⟩ :: rest) := by
                rw [← el]
                exact (HA5.out.setRoot ⟨A', h0.c - 1, h0.l.drop 1, h0.k⟩ ⟨HDR.out, by show (h0.l.drop 1).length ≤ h0.c - 1; rw [el]; omega⟩ rfl).keep (below_drew1 (Below.refl _ _))
              have ho6 := Kd.R_drew (R_oth HO5.out (Oth.set (hp := w.heap.size + 1) wc 0 (.slice A' (h0.l.length - 1) (h0.c - 1)) HA5.out.gB))
              have HA6 := Aside0.mk ha6
              have HO6 := Aside0.mk ho6
              clear ha6 ho6 HA5 HO5 hb5 r51 r52 hct
              generalize (wc.setCell ⟨g, 0, none⟩ (.slice A' (h0.l.length - 1) (h0.c - 1))).drew = w6 at HA6 HO6 ⊢
              have hb6 := HA6.out.cell
              have hlen6 : ((⟨A', h0.c - 1, h0.l.drop 1, h0.k⟩ : Hd) :: rest).length = rest.length + 1 := rfl
              rw [hlen6] at hb6
              obtain ⟨rs6, hrow6⟩ := HA6.out.row
              have r6 := (blk_cell1 hrow6 0 (v := .slice A' (h0.l.drop 1).length (h0.c - 1)) rfl).1
              clear hrow6 hlen6
              rw [el] at r6
              obtain ⟨n1, hn1⟩ : ∃ n1, h0.l.length - 1 = n1 := ⟨_, rfl⟩
              rw [hn1] at r6
              have HN1 := Aside0.mk hn1
              have HEL := Aside0.mk el
              clear hn1 el
              cases n1 with
              | zero =>
                obtain ⟨ys, i, hd, hperm, hmin⟩ := pop_min ⟨A', h0.c - 1, h0.l.drop 1, h0.k⟩ rest (by omega)
                have HD := Aside0.mk hd
                have HPO := Aside0.mk (swapH_rest ⟨A', h0.c - 1, h0.l.drop 1, h0.k⟩ rest (fun h hh => ST.out.pos HI1.out h (List.mem_cons_of_mem _ hh)))
                have HI2 := Aside0.mk (ST.out.pop HI1.out (by have := HN1.out; omega) ys hperm hmin)
                rw [HX.out] at HI2
                clear hd hperm hmin
                go_wp2_with (first | (go_at_call 31; refine (pop_calls 3 w _ (w.heap.size + 1) g cap _ rest.length rfl HPO.out HA6.out ys _ i HD.out).mono ?_; rintro e w7 ⟨v7, rfl, ha7, ho7⟩; have HA7 := Aside0.mk ha7; have HO7 := Aside0.mk (R_oth HO6.out ho7); clear ha7 ho7))
                go_roundg k1
                case measure => omega
                case rel => exact ⟨ys, outNext out x0, HA7, HO7, HI2⟩
              | succ n2 =>
                obtain ⟨ys, i, hd, hperm, hmin⟩ := fix_min (⟨A', h0.c - 1, h0.l.drop 1, h0.k⟩ :: rest) (by simp; omega)
                have HD := Aside0.mk hd
                have hn := HN1.out
                have hle := HEL.out
                have HPO := Aside0.mk (show ∀ j, j < ((⟨A', h0.c - 1, h0.l.drop 1, h0.k⟩ : Hd) :: rest).length → 0 < (((⟨A', h0.c - 1, h0.l.drop 1, h0.k⟩ : Hd) :: rest).getD j zHd).l.length from by
                  intro j hj
                  cases j with
                  | zero => show 0 < (h0.l.drop 1).length; omega
                  | succ j =>
                    have hj' : j < rest.length := by simpa using hj
                    have e2 : ((⟨A', h0.c - 1, h0.l.drop 1, h0.k⟩ : Hd) :: rest).getD (j + 1) zHd = rest[j] := by simp [List.getD_eq_getElem?_getD, List.getElem?_eq_getElem hj']
                    rw [e2]
                    exact ST.out.pos HI1.out _ (List.mem_cons_of_mem _ (List.getElem_mem _)))
                have HI2 := Aside0.mk (ST.out.fix HI1.out (by omega) A' (h0.c - 1) ys hperm hmin)
                rw [HX.out] at HI2
                clear hd hperm hmin hn hle
                go_wp2_with (first | (go_at_call 32; refine (fix_calls 3 w _ (w.heap.size + 1) g cap _ HPO.out HA6.out (ys, i) HD.out).mono ?_; rintro e w7 ⟨rfl, ha7, ho7⟩; have HA7 := Aside0.mk ha7; have HO7 := Aside0.mk (R_oth HO6.out ho7); clear ha7 ho7))
                go_roundg k1
                case measure => omega
                case rel => exact ⟨ys, outNext out x0, HA7, HO7, HI2⟩
end Go.Proofs.Ytdpnhnfhobmopaa.P
