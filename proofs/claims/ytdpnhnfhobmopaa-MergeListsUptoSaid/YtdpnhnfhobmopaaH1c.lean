/- Contracts proved by hand: container/heap's Fix, Init, Pop over the heads. -/
import Derived.Test.YtdpnhnfhobmopaaH1b
namespace Go.Proofs.Ytdpnhnfhobmopaa.P
open Go.RowKit Go.Proofs.YtdpnhnfhobmopaaW.PrintWords Go.Proofs.YtdpnhnfhobmopaaW.PrintLast Go.Proofs.YtdpnhnfhobmopaaW.PrintMore
set_option linter.unusedVariables false
set_option linter.unusedSimpArgs false

theorem len_calls (g cap n : Nat) (W : World) (hc : n ≤ cap) : Calls Try.prog 30 #[.slice (some ⟨g, 0, none⟩) n cap] W fun e W' => e = .returned (.int .i64 n) ∧ Drawn0 W W' := by
  go_enter Try.func30, Try.ntmps30
  go_wp2
  go_ret
  exact ⟨rfl, Drawn0.refl _⟩
theorem Oth.drawn {B g hp : Nat} {W W' : World} (h : Drawn0 W W') (hB : B ≤ W.heap.size) : Oth B g hp W W' := by
  obtain ⟨n, rfl⟩ := h.out
  exact ⟨pw_below_drewN (Below.refl _ _) _, Nat.le_refl _, fun _ _ _ _ => rfl⟩
theorem HA.drawn {w0 W W' : World} {hp g cap : Nat} {hs : List Hd} (h : HA w0 W hp g cap hs) (hd : Drawn0 W W') : HA w0 W' hp g cap hs := by
  obtain ⟨n, rfl⟩ := hd.out
  exact h.keep (pw_below_drewN (Below.refl _ _) _)
set_option maxHeartbeats 4000000 in
set_option maxRecDepth 100000 in
theorem up_calls (w0 W : World) (hp g cap : Nat) (hs : List Hd) (ha : HA w0 W hp g cap hs) :
    Calls Try.prog 42 #[.iface 53 (.pointer (some ⟨hp, 0, none⟩)), .int .i64 0] W fun e W' => e = .returned (.tuple #[]) ∧ HA w0 W' hp g cap hs ∧ Oth w0.heap.size g hp W W' := by
  have HA0 := Aside0.mk ha
  clear ha
  go_enter Try.func42, Try.ntmps42
  go_wp2
  go_loopg [1] 0 (fun kq v1 w' => v1 = .int .i64 0 ∧ w' = W)
  case atStart => exact ⟨rfl, rfl⟩
  case round =>
    obtain ⟨rfl, rfl⟩ := hrel
    go_wp2
    exact Great.bodyPost_end0 rfl rfl ⟨rfl, HA0.out, Oth.refl _ _ _ _⟩
set_option maxHeartbeats 4000000 in
set_option maxRecDepth 100000 in
theorem fix_calls (k : Nat) (w0 W : World) (hp g cap : Nat) (hs : List Hd) (hpos : ∀ j, j < hs.length → 0 < (hs.getD j zHd).l.length) (ha : HA w0 W hp g cap hs) (r : List Hd × Nat) (h : downL hs.length k hs 0 = some r) :
    Calls Try.prog 32 #[.iface 53 (.pointer (some ⟨hp, 0, none⟩)), .int .i64 0] W fun e W' => e = .returned (.tuple #[]) ∧ HA w0 W' hp g cap r.1 ∧ Oth w0.heap.size g hp W W' := by
  have HA0 := Aside0.mk ha
  have HP := Aside0.mk hpos
  have H' := Aside0.mk h
  have HO := Aside0.mk (Oth.refl w0.heap.size g hp W)
  clear ha hpos h
  have hmL := HA0.out.mLen
  by_cases hm : 0 < r.2
  · go_enter Try.func32, Try.ntmps32
    go_wp2_with (first | (go_at_call 30; refine (len_calls g cap hs.length _ HA0.out.capB).mono ?_; rintro e w1 ⟨rfl, hd⟩; have HA1 := Aside0.mk (HA0.out.drawn hd); have HO1 := Aside0.mk (HO.out.trans (Oth.drawn hd HA0.out.below.size)); clear hd) | (go_at_call 41; refine (down_calls k w0 _ hp g cap hs 0 hs.length (by omega) (Nat.le_refl _) HP.out HA1.out r H'.out).mono ?_; rintro e w2 ⟨rfl, ha2, ho2⟩; have HA2 := Aside0.mk ha2; have HO2 := Aside0.mk (HO1.out.trans ho2); clear ha2 ho2) | (go_at_call 42; refine (up_calls w0 _ hp g cap _ HA2.out).mono ?_; rintro e w3 ⟨rfl, ha3, ho3⟩; have HA3 := Aside0.mk ha3; have HO3 := Aside0.mk (HO2.out.trans ho3); clear ha3 ho3))
    exact Great.bodyPost_end0 rfl rfl ⟨rfl, HA2.out, HO2.out⟩
  · go_enter Try.func32, Try.ntmps32
    go_wp2_with (first | (go_at_call 30; refine (len_calls g cap hs.length _ HA0.out.capB).mono ?_; rintro e w1 ⟨rfl, hd⟩; have HA1 := Aside0.mk (HA0.out.drawn hd); have HO1 := Aside0.mk (HO.out.trans (Oth.drawn hd HA0.out.below.size)); clear hd) | (go_at_call 41; refine (down_calls k w0 _ hp g cap hs 0 hs.length (by omega) (Nat.le_refl _) HP.out HA1.out r H'.out).mono ?_; rintro e w2 ⟨rfl, ha2, ho2⟩; have HA2 := Aside0.mk ha2; have HO2 := Aside0.mk (HO1.out.trans ho2); clear ha2 ho2) | (go_at_call 42; refine (up_calls w0 _ hp g cap _ HA2.out).mono ?_; rintro e w3 ⟨rfl, ha3, ho3⟩; have HA3 := Aside0.mk ha3; have HO3 := Aside0.mk (HO2.out.trans ho3); clear ha3 ho3))
    exact Great.bodyPost_end0 rfl rfl ⟨rfl, HA3.out, HO3.out⟩
/-- The heads behind container/heap.Init. -/
def initL (k : Nat) (hs : List Hd) : Option (List Hd) := if 2 ≤ hs.length then (downL hs.length k hs 0).map (·.1) else some hs
set_option maxHeartbeats 4000000 in
set_option maxRecDepth 100000 in
theorem init_calls (k : Nat) (w0 W : World) (hp g cap : Nat) (hs : List Hd) (h3 : hs.length ≤ 3) (hpos : ∀ j, j < hs.length → 0 < (hs.getD j zHd).l.length) (ha : HA w0 W hp g cap hs) (r : List Hd) (h : initL k hs = some r) :
    Calls Try.prog 29 #[.iface 53 (.pointer (some ⟨hp, 0, none⟩))] W fun e W' => e = .returned (.tuple #[]) ∧ HA w0 W' hp g cap r ∧ Oth w0.heap.size g hp W W' := by
  have HA0 := Aside0.mk ha
  have HP := Aside0.mk hpos
  have HO := Aside0.mk (Oth.refl w0.heap.size g hp W)
  clear ha hpos
  have hmL := HA0.out.mLen
  by_cases h2 : 2 ≤ hs.length
  · have hq : Int.tdiv (hs.length : Int) 2 = 1 := by rw [Int.tdiv_eq_ediv_of_nonneg (by omega)]; omega
    unfold initL at h
    rw [if_pos h2] at h
    obtain ⟨r0, hr0, rfl⟩ := Option.map_eq_some_iff.1 h
    have H' := Aside0.mk hr0
    clear h hr0
    go_enter Try.func29, Try.ntmps29
    go_wp2_with (first | (go_at_call 30; refine (len_calls g cap hs.length _ HA0.out.capB).mono ?_; rintro e w1 ⟨rfl, hd⟩; have HA1 := Aside0.mk (HA0.out.drawn hd); have HO1 := Aside0.mk (HO.out.trans (Oth.drawn hd HA0.out.below.size)); clear hd))
    go_loopg [3] 1 (fun kq v3 w' => ∃ (x : Int) (hs' : List Hd), v3 = .int .i64 x ∧ Aside0 (HA w0 w' hp g cap hs') ∧ Aside0 (Oth w0.heap.size g hp W w') ∧ ((x = 0 ∧ hs' = hs ∧ kq = 1) ∨ (x = -1 ∧ hs' = r0.1 ∧ kq = 0)))
    case atStart => exact ⟨0, hs, rfl, HA1, HO1, .inl ⟨rfl, rfl, rfl⟩⟩
    case round =>
      obtain ⟨x, hs', rfl, HA2, HO2, hc⟩ := hrel
      rcases hc with ⟨rfl, rfl, rfl⟩ | ⟨rfl, rfl, rfl⟩
      · go_wp2_with (first | (go_at_call 41; refine (down_calls k w0 _ hp g cap hs' 0 hs'.length (by omega) (Nat.le_refl _) HP.out HA2.out r0 H'.out).mono ?_; rintro e w2 ⟨rfl, ha2, ho2⟩; have HA3 := Aside0.mk ha2; have HO3 := Aside0.mk (HO2.out.trans ho2); clear ha2 ho2))
        go_roundg 0
        case measure => omega
        case rel => exact ⟨-1, r0.1, by first | rfl | (congr 1; unfold wrap64; omega) | (simp; done), HA3, HO3, .inr ⟨rfl, rfl, rfl⟩⟩
      · go_wp2
        exact Great.bodyPost_end0 rfl rfl ⟨rfl, HA2.out, HO2.out⟩
  · have hq : Int.tdiv (hs.length : Int) 2 = 0 := by rw [Int.tdiv_eq_ediv_of_nonneg (by omega)]; omega
    unfold initL at h
    rw [if_neg h2] at h
    obtain rfl := Option.some.inj h
    clear h
    go_enter Try.func29, Try.ntmps29
    go_wp2_with (first | (go_at_call 30; refine (len_calls g cap hs.length _ HA0.out.capB).mono ?_; rintro e w1 ⟨rfl, hd⟩; have HA1 := Aside0.mk (HA0.out.drawn hd); have HO1 := Aside0.mk (HO.out.trans (Oth.drawn hd HA0.out.below.size)); clear hd))
    go_loopg [3] 0 (fun kq v3 w' => v3 = .int .i64 (-1) ∧ w' = w1)
    case atStart => exact ⟨rfl, rfl⟩
    case round =>
      obtain ⟨rfl, rfl⟩ := hrel
      go_wp2
      exact Great.bodyPost_end0 rfl rfl ⟨rfl, HA1.out, HO1.out⟩
/-! ### the last head is taken off -/
theorem Oth.setp {B g hp : Nat} (W : World) (j : Nat) (x : Value) (hB : B ≤ hp) : Oth B g hp W (W.setCell ⟨hp, j, none⟩ x) :=
  ⟨(Below.refl B W).setCell (p := ⟨hp, j, none⟩) hB _, by simp, fun b hb _ h3 => Below.heap_setCell _ _ _ _ h3⟩
theorem Oth.alloc {B g hp : Nat} (W : World) (o : Obj) (hB : B ≤ W.heap.size) : Oth B g hp W (W.alloc o) := Oth.of_below (below_alloc (Below.refl _ _) _) hB
theorem hcs_append (a b : List Hd) : hcs (a ++ b) = hcs a ++ hcs b := by simp [hcs]
set_option maxHeartbeats 4000000 in
set_option maxRecDepth 100000 in
theorem popm_calls (w0 W : World) (hp g cap : Nat) (hs : List Hd) (x : Hd) (ha : HA w0 W hp g cap (hs ++ [x])) :
    Calls Try.prog 65 #[.pointer (some ⟨hp, 0, none⟩)] W fun e W' => ∃ v, e = .returned v ∧ HA w0 W' hp g cap hs ∧ Oth w0.heap.size g hp W W' := by
  have hcell := ha.cell
  have hcap := ha.capB
  have hsm := ha.small
  have hfr : W.frozen? ⟨hp, 0, none⟩ = false := (blk_cell1 ha.box 0 rfl).2
  obtain ⟨rest, hrow⟩ := ha.row
  have hx := hcs_at (hs ++ [x]) rest hs.length (by simp)
  rw [show (hs ++ [x]).getD hs.length zHd = x by simp] at hx
  have cx0 := (blk_cell1 hrow (hs.length * 2) (by simpa using hx.1)).1
  have cx1 := (blk_cell1 hrow (hs.length * 2 + 1) (by simpa using hx.2)).1
  have HA0 := Aside0.mk ha
  have HROW := Aside0.mk hrow
  clear ha hrow hx
  rw [List.length_append, List.length_singleton] at hcell hcap hsm
  have hlt : hp < W.heap.size := (Array.getElem?_eq_some_iff.1 HA0.out.box).1
  have hal : (W.alloc (.cells #[.slice x.A x.l.length x.c, .int .i64 x.k] 57)).cell? ⟨hp, 0, none⟩ = some (.slice (some ⟨g, 0, none⟩) (hs.length + 1) cap) := (World.cell?_alloc_old _ _ _ (Nat.ne_of_lt hlt)).trans hcell
  have hff : (W.alloc (.cells #[.slice x.A x.l.length x.c, .int .i64 x.k] 57)).frozen? ⟨hp, 0, none⟩ = false := by
    have hb : (W.alloc (.cells #[.slice x.A x.l.length x.c, .int .i64 x.k] 57)).heap[hp]? = _ := (Below.heap_alloc _ _ _ hlt).trans HA0.out.box
    exact (blk_cell1 hb 0 rfl).2
  have hne : hp ≠ W.heap.size := Nat.ne_of_lt hlt
  go_enter Try.func65, Try.ntmps65
  go_wp2
  go_ret
  have ho : Oth w0.heap.size g hp W ((W.setCell ⟨hp, 0, none⟩ (.slice (some ⟨g, 0, none⟩) hs.length cap)).alloc (.cells #[.slice x.A x.l.length x.c, .int .i64 x.k] 57)) :=
    (Oth.setp W 0 _ HA0.out.hpB).trans (Oth.alloc _ _ (by have := HA0.out.below.size; simpa using this))
  refine ⟨_, rfl, ⟨HA0.out.below.trans ho.below, HA0.out.hpB, HA0.out.gB, HA0.out.ne, by omega, by omega, ?_, ⟨x.cells ++ rest, ?_⟩, fun h hh => HA0.out.lists h (List.mem_append_left _ hh)⟩, ho⟩
  · have h1 := blk_set HA0.out.box 0 (.slice (some ⟨g, 0, none⟩) hs.length cap)
    exact (Below.heap_alloc _ _ _ (by simpa using hlt)).trans h1
  · have hg := (Array.getElem?_eq_some_iff.1 HROW.out).1
    refine (Below.heap_alloc _ _ _ (by simpa using hg)).trans ((Below.heap_setCell _ _ _ _ (fun e => HA0.out.ne e.symm)).trans (HROW.out.trans ?_))
    rw [hcs_append, List.append_assoc]
    simp [hcs]
set_option maxHeartbeats 4000000 in
set_option maxRecDepth 100000 in
theorem pop_calls (k : Nat) (w0 W : World) (hp g cap : Nat) (hs : List Hd) (m : Nat) (hm : hs.length = m + 1) (hpos : ∀ j, j < m → 0 < ((swapH hs 0 m).getD j zHd).l.length) (ha : HA w0 W hp g cap hs) (ys : List Hd) (y : Hd) (i : Nat) (h : downL m k (swapH hs 0 m) 0 = some (ys ++ [y], i)) :
    Calls Try.prog 31 #[.iface 53 (.pointer (some ⟨hp, 0, none⟩))] W fun e W' => ∃ v, e = .returned v ∧ HA w0 W' hp g cap ys ∧ Oth w0.heap.size g hp W W' := by
  have HA0 := Aside0.mk ha
  have HP := Aside0.mk hpos
  have H' := Aside0.mk h
  have HM := Aside0.mk hm
  have HO := Aside0.mk (Oth.refl w0.heap.size g hp W)
  have hsm := ha.small
  rw [hm] at hsm
  have hmL := HA0.out.mLen
  rw [hm] at hmL
  clear ha hpos h hm
  go_enter Try.func31, Try.ntmps31
  go_wp2_with (first | (go_at_call 30; refine (len_calls g cap (m + 1) _ (by rw [← HM.out]; exact HA0.out.capB)).mono ?_; rintro e w1 ⟨rfl, hd⟩; have HA1 := Aside0.mk (HA0.out.drawn hd); have HO1 := Aside0.mk (HO.out.trans (Oth.drawn hd HA0.out.below.size)); have hmS := HA1.out.mSwap; rw [HM.out] at hmS; clear hd) | (go_at_call 66; rw [← HM.out]; refine (HA1.out.swap' 0 m _ _ rfl rfl (by rw [HM.out]; omega) (by rw [HM.out]; omega)).mono ?_; rintro e w2 ⟨rfl, ha2, ho2⟩; have HA2 := Aside0.mk ha2; have HO2 := Aside0.mk (HO1.out.trans ho2); clear ha2 ho2) | (go_at_call 41; refine (down_calls k w0 _ hp g cap _ 0 m (by omega) (by rw [swapH_length, HM.out]; omega) HP.out HA2.out _ H'.out).mono ?_; rintro e w3 ⟨rfl, ha3, ho3⟩; have HA3 := Aside0.mk ha3; have HO3 := Aside0.mk (HO2.out.trans ho3); have hmP := mPop ⟨hp, 0, none⟩ w3; clear ha3 ho3) | (go_at_call 65; refine (popm_calls w0 _ hp g cap ys y HA3.out).mono ?_; rintro e w4 ⟨v4, rfl, ha4, ho4⟩; have HA4 := Aside0.mk ha4; have HO4 := Aside0.mk (HO3.out.trans ho4); clear ha4 ho4))
  go_ret
  exact ⟨_, rfl, HA4.out, HO4.out⟩
end Go.Proofs.Ytdpnhnfhobmopaa.P
