/- SchedWaits. -/
import Derived.Test.YtompgphlinjglaaS26
namespace Go.Proofs.Ytompgphlinjglaa.P
open Go.RowKit Go.Proofs.YtompgphlinjglaaW.PrintWords Go.Proofs.YtompgphlinjglaaW.PrintLast Go.Proofs.YtompgphlinjglaaW.PrintMore
attribute [local go_sem] Oper.semAt_some
set_option linter.unusedVariables false
set_option linter.unusedSimpArgs false

section
variable {k : Nat} {w w0 w1 : World} {g g0 g1 : Nat → Tag} {q pl pr : Nat} {S R : LS}
theorem Cu.lwaits2 (h : Cu k g0 w0 q pl pr S R w) (hn : S.tasks.length ≤ 64) {xs : List Int} (hx : waitsF S = xs) : Calls Try.prog 13 #[.pointer (some ⟨pl, 0, none⟩)] w fun e w' => ∃ A c, e = .returned (.slice A xs.length c) ∧ xs.length ≤ c ∧ Kd.C (Kd.int .i64) w' A xs.length xs ∧ Cu k g0 w0 q pl pr S R w' := by
  subst hx
  refine (h.lwaits hn).mono ?_
  rintro _ w' ⟨v, rfl, hR, hb, h2⟩
  obtain ⟨A, c, rfl⟩ := Kd.R_slice hR
  exact ⟨A, c, rfl, (Kd.R_reads' hR).2.1, (Kd.R_reads' hR).2.2, h2⟩
theorem Cu.lready2 (h : Cu k g0 w0 q pl pr S R w) (hn : S.tasks.length ≤ 64) {xs : List Int} (hx : readyF S = xs) : Calls Try.prog 15 #[.pointer (some ⟨pl, 0, none⟩)] w fun e w' => ∃ A c, e = .returned (.slice A xs.length c) ∧ xs.length ≤ c ∧ Kd.C (Kd.int .i64) w' A xs.length xs ∧ Cu k g0 w0 q pl pr S R w' := by
  subst hx
  refine (h.lready hn).mono ?_
  rintro _ w' ⟨v, rfl, hR, hb, h2⟩
  obtain ⟨A, c, rfl⟩ := Kd.R_slice hR
  exact ⟨A, c, rfl, (Kd.R_reads' hR).2.1, (Kd.R_reads' hR).2.2, h2⟩
theorem same_lit (h0 : Cu k g0 w0 q pl pr S R w) {A : Option Addr} {c : Nat} {xs : List Int} (hc : xs.length ≤ c) (h : Kd.C (Kd.int .i64) w A xs.length xs) (ys : List Int) (hm : ys.length ≤ 9223372036854775807) (W : World) (hb : Below (w.alloc (.cells (ys.map (Value.int .i64)).toArray 3)).heap.size (w.alloc (.cells (ys.map (Value.int .i64)).toArray 3)) W) :
    Calls Try.prog 12 #[.slice A xs.length c, .slice (some ⟨w.heap.size, 0, none⟩) ys.length ys.length] W fun e w' => e = .returned (.bool (decide (xs = ys))) ∧ Cu k g0 w0 q pl pr S R w' := by
  refine (same_calls A c xs _ _ ys W (Kd.C_below h (below_step (below_alloc (Below.refl _ _) _) hb)) hc (Kd.C_below (lit_ints w ys hm) hb) (Nat.le_refl _)).mono ?_
  rintro e w' ⟨rfl, n, rfl⟩
  exact ⟨rfl, ((h0.alloc _).below hb).drewN n⟩
end
set_option maxHeartbeats 8000000 in
set_option maxRecDepth 100000 in
theorem schedWaits_calls (ch other : Int) (A : Option Addr) (c : Nat) (picks : List Int) (w : World) (hC : Kd.C (Kd.int .i64) w A picks.length picks) (hc : picks.length ≤ c) :
    Calls Try.prog 3 #[.int .i64 ch, .int .i64 other, .slice A picks.length c] w fun e w' => e = .returned (.bool true) ∧ Below w.heap.size w w' := by
  have HC := Aside0.mk hC
  have hs := start_calls 0 gData none 0 [] none 0 [] none 0 [] w (dat_arg (Kd.heap_int _) (Kd.C_nil _ _)) (Nat.le_refl _) (dat_arg (Kd.heap_int _) (Kd.C_nil _ _)) (Nat.le_refl _) (dat_arg (Kd.heap_int _) (Kd.C_nil _ _)) (Nat.le_refl _) (by decide) (by decide)
  have HS := Aside0.mk hs
  have hmk : ∀ W : World, (Instr.makeSlice 32 (.int .i64 300) (.int .i64 300)).run Try.prog W = .ok (.slice (some ⟨W.heap.size, 0, none⟩) 300 300) (W.alloc (.cells (actCells (zActs 300)).toArray 31)) := fun W => makeActs 300 (by omega) W
  obtain ⟨ZC, hZC⟩ : ∃ ZC, (actCells (zActs 300)).toArray = ZC := ⟨_, rfl⟩
  rw [hZC] at hmk
  have HZC := Aside0.mk hZC
  clear hZC
  clear hC hs
  go_enter Try.func3, Try.ntmps3
  go_upto_region 2 with (go_at_call 9; refine HS.out.mono ?_; rintro e w1 ⟨q, rfl, hb, g1, he, hbo⟩; obtain ⟨pl, pr, hcu⟩ := Cu.of_both he hb hbo; have HC1 := Aside0.mk hcu; clear hb he hbo hcu)
  have HA1 := Aside0.mk (fun (W : World) (hb : Below w1.heap.size w1 W) (hx : W.heap[w1.heap.size]? = some (.cells #[.int .i64 2, .int .i64 ch, .int .i64 4, .int .i64 0, .int .i64 1, .int .i64 0] 31 (0, 0))) => show Calls Try.prog 10 #[.pointer (some ⟨q, 0, none⟩), .slice (some ⟨w1.heap.size, 0, none⟩) 3 3] W fun e w' => e = .returned (.bool true) ∧ ∃ pl pr, Cu 0 gData w q pl pr (addF (S0 [] [] []) (wActs ch)) (addF (S0 [] [] []) (wActs ch)) w' from Cu.addLit (acts := wActs ch) HC1.out hb (Nat.le_refl _) hx (Nat.le_refl _) (by show 3 ≤ 8796093022208; omega) (by show 0 ≤ 64; omega))
  have HA2 := Aside0.mk (fun (w2 : World) (q pl pr : Nat) (h : Cu 0 gData w q pl pr (addF (S0 [] [] []) (wActs ch)) (addF (S0 [] [] []) (wActs ch)) w2) (W : World) (hb : Below w2.heap.size w2 W) (hx : W.heap[w2.heap.size]? = some (.cells ZC 31 (0, 0))) => show Calls Try.prog 10 #[.pointer (some ⟨q, 0, none⟩), .slice (some ⟨w2.heap.size, 0, none⟩) 300 300] W fun e w' => e = .returned (.bool true) ∧ ∃ pl pr, Cu 0 gData w q pl pr (W0 ch) (W0 ch) w' from by
    have := h.addLit (acts := zActs 300) (c := 300) hb (Nat.le_refl _) (by rw [HZC.out]; exact hx) (Nat.le_of_eq (zActs_len 300)) (by rw [zActs_len]; omega) (by show 1 ≤ 64; omega)
    rw [zActs_len, W0_eq] at this
    exact this)
  go_upto_region 4 with (first
    | (go_at_call 10; refine (HA2.out w2 q pl2 pr2 HC2.out _ (by first | exact below_alloc (Below.refl _ _) _ | exact below_drew (below_alloc (Below.refl _ _) _)) (by first | exact blk_new _ _ | exact blk_drew (blk_new _ _))).mono ?_; rintro e w3 ⟨rfl, pl3, pr3, h3⟩; have HC3 := Aside0.mk h3; clear h3)
    | (go_at_call 10; refine (HA1.out _ (by first | exact below_alloc (Below.refl _ _) _ | exact below_drew (below_alloc (Below.refl _ _) _)) (by first | exact blk_new _ _ | exact blk_drew (blk_new _ _))).mono ?_; rintro e w2 ⟨rfl, pl2, pr2, h2⟩; have HC2 := Aside0.mk h2; clear h2))
  clear hmk HA1 HA2 HC1 HC2 HS HZC
  have z0 := HC3.out.cells.1
  have hst := HC3.out.lstep (good_W0 ch) (by omega) 0
  rw [show whoF (W0 ch) 0 = 0 from rfl, W0_steps, W0_step] at hst
  have HST := Aside0.mk hst
  clear hst
  go_upto_region 7 with (go_at_call 11; refine HST.out.mono ?_; rintro e w4 ⟨rfl, h4⟩; have HC4 := Aside0.mk h4; clear h4)
  by_cases hr : 1 ≤ ch ∧ ch ≤ 1024
  · rw [if_pos hr] at HC4
    have hne : ch ≠ 0 := by omega
    have hb1 : decide (ch < 1) = false := decide_eq_false (by omega)
    have hb2 : decide (1024 < ch) = false := decide_eq_false (by omega)
    have z0 := HC4.out.cells.1
    have HWN := Aside0.mk (fun (hx : other ≠ ch) => HC4.out.lwake (by show 2 ≤ 64; omega) other)
    go_upto_region 9 with (fail)
    by_cases hoc : other = ch
    · have hoc1 : (other != ch) = false := by simp [hoc]
      clear hoc
      go_upto_region 11 with (fail)
      have HC5 := HC4
      obtain ⟨w5, rfl⟩ : ∃ wo : World, wo = w4 := ⟨_, rfl⟩
      go_wp2
      go_loopg [11] 200 (fun kq v11 w' => ∃ (i j : Nat), v11 = .int .i64 i ∧ i ≤ picks.length ∧ i ≤ 200 ∧ j ≤ i ∧ Aside0 (kq = 200 - i) ∧ Aside0 (Cu 0 gData w q pl3 pr3 (WS ch ch j) (W0 ch) w'))
      case atStart => exact ⟨0, 0, rfl, Nat.zero_le _, Nat.zero_le _, Nat.le_refl _, ⟨rfl⟩, HC5⟩
      case round =>
        obtain ⟨i, j, rfl, hi, hi2, hj, HK, HCU⟩ := hrel
        have y0 := HCU.out.cells.1
        by_cases hlt : i < picks.length ∧ i < 200
        · obtain ⟨k1, rfl⟩ : ∃ k1, gk = k1 + 1 := ⟨gk - 1, by have := HK.out; omega⟩
          have HK1 := Aside0.mk (show k1 = 200 - (i + 1) by have := HK.out; omega)
          obtain ⟨ad, e1, hx⟩ := Kd.at_int (Kd.C_below HC.out HCU.out.fin) (i : Int) (Int.natCast_nonneg _) (by omega)
          rw [Int.toNat_natCast] at hx
          cases e1
          obtain ⟨x, hxe⟩ : ∃ x, rd picks (i : Int) = x := ⟨_, rfl⟩
          rw [hxe] at hx
          have dl1 : decide ((i : Int) < (picks.length : Int)) = true := decide_eq_true (by omega)
          have dl2 : decide ((i : Int) < 200) = true := decide_eq_true (by omega)
          have HRD := Aside0.mk (fun {W : World} (hb : Below w.heap.size w W) => show W.cell? (ad.add i) = some (.int .i64 x) from by
            obtain ⟨ad2, e2, hx2⟩ := Kd.at_int (Kd.C_below HC.out hb) (i : Int) (Int.natCast_nonneg _) (by omega)
            rw [Int.toNat_natCast, hxe] at hx2
            injection e2 with e2
            subst e2
            exact hx2)
          have hstp := HCU.out.drew.lstep (good_WS ch ch j (by omega) (by omega)) (by omega) x
          rw [WS_who ch hne, WS_steps ch hne, WS_step ch hne j (by omega)] at hstp
          obtain ⟨hla, hlb⟩ := hlt
          clear hxe HK
          by_cases h0 : 0 ≤ x
          · rw [if_pos h0, if_pos h0, decide_eq_true h0] at hstp
            have HSTP := Aside0.mk hstp
            have d0 : decide (0 ≤ x) = true := decide_eq_true h0
            clear hstp
            go_upto_region 14 with (fail)
            refine start_ (n := 14) (S := fun w' => w'.cell? ⟨q, 0, none⟩ = some (.pointer (some ⟨pl3, 0, none⟩)) ∧ w'.cell? (ad.add i) = some (.int .i64 x)) (ds := []) #[false, false, false, false, false, false, false, false, false, false, false, false, false, false] (by kernel_rfl) rfl rfl ⟨y0, hx⟩ (fun hHeld => ?_)
            refine pure_ (i := 0) (N := some 91) (v := ?_) (a' := ?_) #[true, false, false, false, false, false, false, false, false, false, false, false, false, false] rfl rfl (by kernel_rfl) (fun _ _ _ h => h) (Or.inl ⟨by rfl, ?_⟩) ?_ ?_
            rotate_left
            · intro w'
              go_simp
              with_reducible rfl
            rotate_left
            · simp only [Act.put, List.setIfInBounds_toArray, List.set_cons_zero, List.set_cons_succ, i64_w, i32_w]
              rfl
            refine pure_ (i := 1) (N := some 92) (v := ?_) (a' := ?_) #[true, true, false, false, false, false, false, false, false, false, false, false, false, false] rfl rfl (by kernel_rfl) (fun _ _ _ h => h) (Or.inl ⟨by rfl, ?_⟩) ?_ ?_
            rotate_left
            · intro w'
              go_simp
              with_reducible rfl
            rotate_left
            · simp only [Act.put, List.setIfInBounds_toArray, List.set_cons_zero, List.set_cons_succ, i64_w, i32_w]
              rfl
            refine pure_ (i := 2) (N := some 93) (v := ?_) (a' := ?_) #[true, true, true, false, false, false, false, false, false, false, false, false, false, false] rfl rfl (by kernel_rfl) (fun _ _ _ h => h) (Or.inl ⟨by rfl, ?_⟩) ?_ ?_
            rotate_left
            · intro w'
              go_simp
              with_reducible rfl
            rotate_left
            · simp only [Act.put, List.setIfInBounds_toArray, List.set_cons_zero, List.set_cons_succ, i64_w, i32_w]
              rfl
            refine pure_ (i := 4) (N := some 95) (v := ?_) (a' := ?_) #[true, true, true, false, true, false, false, false, false, false, false, false, false, false] rfl rfl (by kernel_rfl) (fun _ _ _ h => h) (Or.inl ⟨by rfl, ?_⟩) ?_ ?_
            rotate_left
            · intro w'
              go_simp
              with_reducible rfl
            rotate_left
            · simp only [Act.put, List.setIfInBounds_toArray, List.set_cons_zero, List.set_cons_succ, i64_w, i32_w]
              rfl
            refine pure_ (i := 5) (N := some 96) (v := ?_) (a' := ?_) #[true, true, true, false, true, true, false, false, false, false, false, false, false, false] rfl rfl (by kernel_rfl) (fun _ _ _ h => h) (Or.inl ⟨by rfl, ?_⟩) ?_ ?_
            rotate_left
            · intro w'
              go_simp
              with_reducible rfl
            rotate_left
            · simp only [Act.put, List.setIfInBounds_toArray, List.set_cons_zero, List.set_cons_succ, i64_w, i32_w]
              rfl
            refine pure_ (i := 6) (N := some 97) (v := ?_) (a' := ?_) #[true, true, true, false, true, true, true, false, false, false, false, false, false, false] rfl rfl (by kernel_rfl) (fun _ _ _ h => h) (Or.inl ⟨by rfl, ?_⟩) ?_ ?_
            rotate_left
            · intro w'
              go_simp
              with_reducible rfl
            rotate_left
            · simp only [Act.put, List.setIfInBounds_toArray, List.set_cons_zero, List.set_cons_succ, i64_w, i32_w]
              rfl
            refine take_ (i := 3) (N := some 94) (v := ?_) (a' := ?_) #[true, true, true, true, true, true, true, false, false, false, false, false, false, false] rfl rfl (by kernel_rfl) (fun _ _ _ h => h) (Or.inl ⟨by rfl, ?_⟩) hHeld ?_ ?_
            rotate_left
            · rintro w' ⟨s0, s1⟩
              go_simp
              with_reducible rfl
            rotate_left
            · simp only [Act.put, List.setIfInBounds_toArray, List.set_cons_zero, List.set_cons_succ, i64_w, i32_w]
              rfl
            refine take_ (i := 7) (N := some 98) (v := ?_) (a' := ?_) #[true, true, true, true, true, true, true, true, false, false, false, false, false, false] rfl rfl (by kernel_rfl) (fun _ _ _ h => h) (Or.inl ⟨by rfl, ?_⟩) hHeld ?_ ?_
            rotate_left
            · rintro w' ⟨s0, s1⟩
              go_simp
              with_reducible rfl
            rotate_left
            · simp only [Act.put, List.setIfInBounds_toArray, List.set_cons_zero, List.set_cons_succ, i64_w, i32_w]
              rfl
            refine one_ (i := 8) (N := some 99) #[true, true, true, true, true, true, true, true, true, false, false, false, false, false] rfl rfl (by kernel_rfl) (by decide) (fun K hK => ?_)
            refine goes_ Try.func11 (by kernel_rfl) rfl #[.pointer (some ⟨pl3, 0, none⟩), .int .i64 x] (by rfl) rfl rfl (by simp only [List.map_toArray, List.map_cons, List.map_nil]; rfl) ?_
            with_reducible refine (HSTP.out).mono ?_
            rintro ev w6 ⟨rfl, h6⟩
            have HC6 := Aside0.mk h6
            have y6 := h6.cells.1
            have hx6 : w6.cell? (ad.add i) = some (.int .i64 x) := HRD.out h6.fin
            clear h6
            refine ⟨_, rfl, ?_⟩
            refine hK.out _ _ ⟨y6, hx6⟩ (fun hHeld => ?_)
            clear hK K
            refine norm_ (a' := ?_) ?_ ?_
            rotate_left
            · show Act.put _ (some 99) _ = _
              simp only [Act.put, List.setIfInBounds_toArray, List.set_cons_zero, List.set_cons_succ, i64_w, i32_w]
              rfl
            refine pure_ (i := 9) (N := some 90) (v := ?_) (a' := ?_) #[true, true, true, true, true, true, true, true, true, true, false, false, false, false] rfl rfl (by kernel_rfl) (fun _ _ _ h => h) (Or.inl ⟨by rfl, ?_⟩) ?_ ?_
            rotate_left
            · intro w'
              go_simp
              with_reducible rfl
            rotate_left
            · simp only [Act.put, List.setIfInBounds_toArray, List.set_cons_zero, List.set_cons_succ, i64_w, i32_w]
              rfl
            refine pure_ (i := 10) (N := some 100) (v := ?_) (a' := ?_) #[true, true, true, true, true, true, true, true, true, true, true, false, false, false] rfl rfl (by kernel_rfl) (fun _ _ _ h => h) (Or.inl ⟨by rfl, ?_⟩) ?_ ?_
            rotate_left
            · intro w'
              go_simp
              with_reducible rfl
            rotate_left
            · simp only [Act.put, List.setIfInBounds_toArray, List.set_cons_zero, List.set_cons_succ, i64_w, i32_w]
              rfl
            refine pure_ (i := 11) (N := some 101) (v := ?_) (a' := ?_) #[true, true, true, true, true, true, true, true, true, true, true, true, false, false] rfl rfl (by kernel_rfl) (fun _ _ _ h => h) (Or.inl ⟨by rfl, ?_⟩) ?_ ?_
            rotate_left
            · intro w'
              go_simp
              with_reducible rfl
            rotate_left
            · simp only [Act.put, List.setIfInBounds_toArray, List.set_cons_zero, List.set_cons_succ, i64_w, i32_w]
              rfl
            refine pure_ (i := 12) (N := some 12) (v := ?_) (a' := ?_) #[true, true, true, true, true, true, true, true, true, true, true, true, true, false] rfl rfl (by kernel_rfl) (fun _ _ _ h => h) (Or.inl ⟨by rfl, ?_⟩) ?_ ?_
            rotate_left
            · intro w'
              go_simp
              with_reducible rfl
            rotate_left
            · simp only [Act.put, List.setIfInBounds_toArray, List.set_cons_zero, List.set_cons_succ, i64_w, i32_w]
              rfl
            refine pure_ (i := 13) (N := some 13) (v := ?_) (a' := ?_) #[true, true, true, true, true, true, true, true, true, true, true, true, true, true] rfl rfl (by kernel_rfl) (fun _ _ _ h => h) (Or.inl ⟨by rfl, ?_⟩) ?_ ?_
            rotate_left
            · intro w'
              go_simp
              with_reducible rfl
            rotate_left
            · simp only [Act.put, List.setIfInBounds_toArray, List.set_cons_zero, List.set_cons_succ, i64_w, i32_w]
              rfl
            refine done_ (by kernel_rfl) ?_
            go_wp2
            go_roundg k1
            case measure => omega
            case rel => exact ⟨i + 1, j + 1, by first | rfl | (congr 1; omega) | (simp; done), hla, by omega, by omega, HK1, HC6⟩
          · rw [if_neg h0, if_neg h0, decide_eq_false h0] at hstp
            have HSTP := Aside0.mk hstp
            have d0 : decide (0 ≤ x) = false := decide_eq_false h0
            clear hstp
            go_upto_region 14 with (fail)
            refine start_ (n := 14) (S := fun w' => w'.cell? ⟨q, 0, none⟩ = some (.pointer (some ⟨pl3, 0, none⟩)) ∧ w'.cell? (ad.add i) = some (.int .i64 x)) (ds := []) #[false, false, false, false, false, false, false, false, false, false, false, false, false, false] (by kernel_rfl) rfl rfl ⟨y0, hx⟩ (fun hHeld => ?_)
            refine pure_ (i := 0) (N := some 91) (v := ?_) (a' := ?_) #[true, false, false, false, false, false, false, false, false, false, false, false, false, false] rfl rfl (by kernel_rfl) (fun _ _ _ h => h) (Or.inl ⟨by rfl, ?_⟩) ?_ ?_
            rotate_left
            · intro w'
              go_simp
              with_reducible rfl
            rotate_left
            · simp only [Act.put, List.setIfInBounds_toArray, List.set_cons_zero, List.set_cons_succ, i64_w, i32_w]
              rfl
            refine pure_ (i := 1) (N := some 92) (v := ?_) (a' := ?_) #[true, true, false, false, false, false, false, false, false, false, false, false, false, false] rfl rfl (by kernel_rfl) (fun _ _ _ h => h) (Or.inl ⟨by rfl, ?_⟩) ?_ ?_
            rotate_left
            · intro w'
              go_simp
              with_reducible rfl
            rotate_left
            · simp only [Act.put, List.setIfInBounds_toArray, List.set_cons_zero, List.set_cons_succ, i64_w, i32_w]
              rfl
            refine pure_ (i := 2) (N := some 93) (v := ?_) (a' := ?_) #[true, true, true, false, false, false, false, false, false, false, false, false, false, false] rfl rfl (by kernel_rfl) (fun _ _ _ h => h) (Or.inl ⟨by rfl, ?_⟩) ?_ ?_
            rotate_left
            · intro w'
              go_simp
              with_reducible rfl
            rotate_left
            · simp only [Act.put, List.setIfInBounds_toArray, List.set_cons_zero, List.set_cons_succ, i64_w, i32_w]
              rfl
            refine pure_ (i := 4) (N := some 95) (v := ?_) (a' := ?_) #[true, true, true, false, true, false, false, false, false, false, false, false, false, false] rfl rfl (by kernel_rfl) (fun _ _ _ h => h) (Or.inl ⟨by rfl, ?_⟩) ?_ ?_
            rotate_left
            · intro w'
              go_simp
              with_reducible rfl
            rotate_left
            · simp only [Act.put, List.setIfInBounds_toArray, List.set_cons_zero, List.set_cons_succ, i64_w, i32_w]
              rfl
            refine pure_ (i := 5) (N := some 96) (v := ?_) (a' := ?_) #[true, true, true, false, true, true, false, false, false, false, false, false, false, false] rfl rfl (by kernel_rfl) (fun _ _ _ h => h) (Or.inl ⟨by rfl, ?_⟩) ?_ ?_
            rotate_left
            · intro w'
              go_simp
              with_reducible rfl
            rotate_left
            · simp only [Act.put, List.setIfInBounds_toArray, List.set_cons_zero, List.set_cons_succ, i64_w, i32_w]
              rfl
            refine pure_ (i := 6) (N := some 97) (v := ?_) (a' := ?_) #[true, true, true, false, true, true, true, false, false, false, false, false, false, false] rfl rfl (by kernel_rfl) (fun _ _ _ h => h) (Or.inl ⟨by rfl, ?_⟩) ?_ ?_
            rotate_left
            · intro w'
              go_simp
              with_reducible rfl
            rotate_left
            · simp only [Act.put, List.setIfInBounds_toArray, List.set_cons_zero, List.set_cons_succ, i64_w, i32_w]
              rfl
            refine take_ (i := 3) (N := some 94) (v := ?_) (a' := ?_) #[true, true, true, true, true, true, true, false, false, false, false, false, false, false] rfl rfl (by kernel_rfl) (fun _ _ _ h => h) (Or.inl ⟨by rfl, ?_⟩) hHeld ?_ ?_
            rotate_left
            · rintro w' ⟨s0, s1⟩
              go_simp
              with_reducible rfl
            rotate_left
            · simp only [Act.put, List.setIfInBounds_toArray, List.set_cons_zero, List.set_cons_succ, i64_w, i32_w]
              rfl
            refine take_ (i := 7) (N := some 98) (v := ?_) (a' := ?_) #[true, true, true, true, true, true, true, true, false, false, false, false, false, false] rfl rfl (by kernel_rfl) (fun _ _ _ h => h) (Or.inl ⟨by rfl, ?_⟩) hHeld ?_ ?_
            rotate_left
            · rintro w' ⟨s0, s1⟩
              go_simp
              with_reducible rfl
            rotate_left
            · simp only [Act.put, List.setIfInBounds_toArray, List.set_cons_zero, List.set_cons_succ, i64_w, i32_w]
              rfl
            refine one_ (i := 8) (N := some 99) #[true, true, true, true, true, true, true, true, true, false, false, false, false, false] rfl rfl (by kernel_rfl) (by decide) (fun K hK => ?_)
            refine goes_ Try.func11 (by kernel_rfl) rfl #[.pointer (some ⟨pl3, 0, none⟩), .int .i64 x] (by rfl) rfl rfl (by simp only [List.map_toArray, List.map_cons, List.map_nil]; rfl) ?_
            with_reducible refine (HSTP.out).mono ?_
            rintro ev w6 ⟨rfl, h6⟩
            have HC6 := Aside0.mk h6
            have y6 := h6.cells.1
            have hx6 : w6.cell? (ad.add i) = some (.int .i64 x) := HRD.out h6.fin
            clear h6
            refine ⟨_, rfl, ?_⟩
            refine hK.out _ _ ⟨y6, hx6⟩ (fun hHeld => ?_)
            clear hK K
            refine norm_ (a' := ?_) ?_ ?_
            rotate_left
            · show Act.put _ (some 99) _ = _
              simp only [Act.put, List.setIfInBounds_toArray, List.set_cons_zero, List.set_cons_succ, i64_w, i32_w]
              rfl
            refine pure_ (i := 9) (N := some 90) (v := ?_) (a' := ?_) #[true, true, true, true, true, true, true, true, true, true, false, false, false, false] rfl rfl (by kernel_rfl) (fun _ _ _ h => h) (Or.inl ⟨by rfl, ?_⟩) ?_ ?_
            rotate_left
            · intro w'
              go_simp
              with_reducible rfl
            rotate_left
            · simp only [Act.put, List.setIfInBounds_toArray, List.set_cons_zero, List.set_cons_succ, i64_w, i32_w]
              rfl
            refine pure_ (i := 10) (N := some 100) (v := ?_) (a' := ?_) #[true, true, true, true, true, true, true, true, true, true, true, false, false, false] rfl rfl (by kernel_rfl) (fun _ _ _ h => h) (Or.inl ⟨by rfl, ?_⟩) ?_ ?_
            rotate_left
            · intro w'
              go_simp
              with_reducible rfl
            rotate_left
            · simp only [Act.put, List.setIfInBounds_toArray, List.set_cons_zero, List.set_cons_succ, i64_w, i32_w]
              rfl
            refine pure_ (i := 11) (N := some 101) (v := ?_) (a' := ?_) #[true, true, true, true, true, true, true, true, true, true, true, true, false, false] rfl rfl (by kernel_rfl) (fun _ _ _ h => h) (Or.inl ⟨by rfl, ?_⟩) ?_ ?_
            rotate_left
            · intro w'
              go_simp
              with_reducible rfl
            rotate_left
            · simp only [Act.put, List.setIfInBounds_toArray, List.set_cons_zero, List.set_cons_succ, i64_w, i32_w]
              rfl
            refine pure_ (i := 12) (N := some 12) (v := ?_) (a' := ?_) #[true, true, true, true, true, true, true, true, true, true, true, true, true, false] rfl rfl (by kernel_rfl) (fun _ _ _ h => h) (Or.inl ⟨by rfl, ?_⟩) ?_ ?_
            rotate_left
            · intro w'
              go_simp
              with_reducible rfl
            rotate_left
            · simp only [Act.put, List.setIfInBounds_toArray, List.set_cons_zero, List.set_cons_succ, i64_w, i32_w]
              rfl
            refine pure_ (i := 13) (N := some 13) (v := ?_) (a' := ?_) #[true, true, true, true, true, true, true, true, true, true, true, true, true, true] rfl rfl (by kernel_rfl) (fun _ _ _ h => h) (Or.inl ⟨by rfl, ?_⟩) ?_ ?_
            rotate_left
            · intro w'
              go_simp
              with_reducible rfl
            rotate_left
            · simp only [Act.put, List.setIfInBounds_toArray, List.set_cons_zero, List.set_cons_succ, i64_w, i32_w]
              rfl
            refine done_ (by kernel_rfl) ?_
            go_wp2
            go_roundg k1
            case measure => omega
            case rel => exact ⟨i + 1, j, by first | rfl | (congr 1; omega) | (simp; done), hla, by omega, by omega, HK1, HC6⟩
        · have HW := Aside0.mk (HCU.out.lwaits2 (xs := [ch, 0]) (by show 2 ≤ 64; omega) rfl)
          have dF : decide (([ch, 0] : List Int) = [ch, 0]) = true := decide_eq_true rfl
          have dG : decide (([0, 1] : List Int) = [0, 1]) = true := by decide
          have HWK := Aside0.mk (fun (W : World) (h : Cu 0 gData w q pl3 pr3 (WS ch ch j) (W0 ch) W) => show Calls Try.prog 14 #[.pointer (some ⟨pl3, 0, none⟩), .int .i64 ch] W fun e w' => e = .returned (.int .i64 1) ∧ Cu 0 gData w q pl3 pr3 (WS ch 0 j) (W0 ch) w' from by
            have := h.lwake (by show 2 ≤ 64; omega) ch
            rw [(WS_wake ch hr.1 j).1, (WS_wake ch hr.1 j).2] at this
            exact this)
          have HRY := Aside0.mk (fun (W : World) (h : Cu 0 gData w q pl3 pr3 (WS ch 0 j) (W0 ch) W) => h.lready2 (xs := [0, 1]) (by show 2 ≤ 64; omega) (WS_ready0 ch j))
          by_cases hl1 : i < picks.length
          · have dl1 : decide ((i : Int) < (picks.length : Int)) = true := decide_eq_true (by omega)
            have dl2 : decide ((i : Int) < 200) = false := decide_eq_false (by omega)
            go_wp2_with (first
              | (go_at_call 13; refine HW.out.mono ?_; rintro e w6 ⟨Av, cv, rfl, hcv, hC6, h6⟩; have HC6 := Aside0.mk h6; have HS6 := Aside0.mk (same_lit h6 hcv hC6 [ch, 0] (by show 2 ≤ 9223372036854775807; omega)); clear hcv hC6 h6)
              | (go_at_call 12; refine (HS9.out _ (by first | exact Below.refl _ _ | exact below_drew (Below.refl _ _))).mono ?_; rintro e w10 ⟨rfl, h10⟩)
              | (go_at_call 12; refine (HS6.out _ (by first | exact Below.refl _ _ | exact below_drew (Below.refl _ _))).mono ?_; rintro e w7 ⟨rfl, h7⟩; have HC7 := Aside0.mk h7; have y1 := h7.cells.1; clear h7)
              | (go_at_call 14; refine (HWK.out _ (by first | exact HC7.out | exact HC7.out.drew)).mono ?_; rintro e w8 ⟨rfl, h8⟩; have HC8 := Aside0.mk h8; have y2 := h8.cells.1; clear h8)
              | (go_at_call 15; refine (HRY.out _ (by first | exact HC8.out | exact HC8.out.drew)).mono ?_; rintro e w9 ⟨Aw, cw, rfl, hcw, hC9, h9⟩; have HC9 := Aside0.mk h9; have HS9 := Aside0.mk (same_lit h9 hcw hC9 [0, 1] (by decide)); clear hcw hC9 h9))
            go_ret
            exact ⟨rfl, h10.fin⟩
          · have dl1 : decide ((i : Int) < (picks.length : Int)) = false := decide_eq_false (by omega)
            go_wp2_with (first
              | (go_at_call 13; refine HW.out.mono ?_; rintro e w6 ⟨Av, cv, rfl, hcv, hC6, h6⟩; have HC6 := Aside0.mk h6; have HS6 := Aside0.mk (same_lit h6 hcv hC6 [ch, 0] (by show 2 ≤ 9223372036854775807; omega)); clear hcv hC6 h6)
              | (go_at_call 12; refine (HS9.out _ (by first | exact Below.refl _ _ | exact below_drew (Below.refl _ _))).mono ?_; rintro e w10 ⟨rfl, h10⟩)
              | (go_at_call 12; refine (HS6.out _ (by first | exact Below.refl _ _ | exact below_drew (Below.refl _ _))).mono ?_; rintro e w7 ⟨rfl, h7⟩; have HC7 := Aside0.mk h7; have y1 := h7.cells.1; clear h7)
              | (go_at_call 14; refine (HWK.out _ (by first | exact HC7.out | exact HC7.out.drew)).mono ?_; rintro e w8 ⟨rfl, h8⟩; have HC8 := Aside0.mk h8; have y2 := h8.cells.1; clear h8)
              | (go_at_call 15; refine (HRY.out _ (by first | exact HC8.out | exact HC8.out.drew)).mono ?_; rintro e w9 ⟨Aw, cw, rfl, hcw, hC9, h9⟩; have HC9 := Aside0.mk h9; have HS9 := Aside0.mk (same_lit h9 hcw hC9 [0, 1] (by decide)); clear hcw hC9 h9))
            go_ret
            exact ⟨rfl, h10.fin⟩
    · have hoc1 : (other != ch) = true := by simp [hoc]
      have HWN2 := Aside0.mk (HWN.out hoc)
      rw [(WS_wakeNot ch other hr.1 hoc 0).1, (WS_wakeNot ch other hr.1 hoc 0).2] at HWN2
      go_upto_region 11 with (go_at_call 14; refine HWN2.out.mono ?_; rintro e w5 ⟨rfl, h5⟩; have HC5 := Aside0.mk h5; clear h5)
      go_wp2
      go_loopg [11] 200 (fun kq v11 w' => ∃ (i j : Nat), v11 = .int .i64 i ∧ i ≤ picks.length ∧ i ≤ 200 ∧ j ≤ i ∧ Aside0 (kq = 200 - i) ∧ Aside0 (Cu 0 gData w q pl3 pr3 (WS ch ch j) (W0 ch) w'))
      case atStart => exact ⟨0, 0, rfl, Nat.zero_le _, Nat.zero_le _, Nat.le_refl _, ⟨rfl⟩, HC5⟩
      case round =>
        obtain ⟨i, j, rfl, hi, hi2, hj, HK, HCU⟩ := hrel
        have y0 := HCU.out.cells.1
        by_cases hlt : i < picks.length ∧ i < 200
        · obtain ⟨k1, rfl⟩ : ∃ k1, gk = k1 + 1 := ⟨gk - 1, by have := HK.out; omega⟩
          have HK1 := Aside0.mk (show k1 = 200 - (i + 1) by have := HK.out; omega)
          obtain ⟨ad, e1, hx⟩ := Kd.at_int (Kd.C_below HC.out HCU.out.fin) (i : Int) (Int.natCast_nonneg _) (by omega)
          rw [Int.toNat_natCast] at hx
          cases e1
          obtain ⟨x, hxe⟩ : ∃ x, rd picks (i : Int) = x := ⟨_, rfl⟩
          rw [hxe] at hx
          have dl1 : decide ((i : Int) < (picks.length : Int)) = true := decide_eq_true (by omega)
          have dl2 : decide ((i : Int) < 200) = true := decide_eq_true (by omega)
          have HRD := Aside0.mk (fun {W : World} (hb : Below w.heap.size w W) => show W.cell? (ad.add i) = some (.int .i64 x) from by
            obtain ⟨ad2, e2, hx2⟩ := Kd.at_int (Kd.C_below HC.out hb) (i : Int) (Int.natCast_nonneg _) (by omega)
            rw [Int.toNat_natCast, hxe] at hx2
            injection e2 with e2
            subst e2
            exact hx2)
          have hstp := HCU.out.drew.lstep (good_WS ch ch j (by omega) (by omega)) (by omega) x
          rw [WS_who ch hne, WS_steps ch hne, WS_step ch hne j (by omega)] at hstp
          obtain ⟨hla, hlb⟩ := hlt
          clear hxe HK
          by_cases h0 : 0 ≤ x
          · rw [if_pos h0, if_pos h0, decide_eq_true h0] at hstp
            have HSTP := Aside0.mk hstp
            have d0 : decide (0 ≤ x) = true := decide_eq_true h0
            clear hstp
            go_upto_region 14 with (fail)
            refine start_ (n := 14) (S := fun w' => w'.cell? ⟨q, 0, none⟩ = some (.pointer (some ⟨pl3, 0, none⟩)) ∧ w'.cell? (ad.add i) = some (.int .i64 x)) (ds := []) #[false, false, false, false, false, false, false, false, false, false, false, false, false, false] (by kernel_rfl) rfl rfl ⟨y0, hx⟩ (fun hHeld => ?_)
            refine pure_ (i := 0) (N := some 91) (v := ?_) (a' := ?_) #[true, false, false, false, false, false, false, false, false, false, false, false, false, false] rfl rfl (by kernel_rfl) (fun _ _ _ h => h) (Or.inl ⟨by rfl, ?_⟩) ?_ ?_
            rotate_left
            · intro w'
              go_simp
              with_reducible rfl
            rotate_left
            · simp only [Act.put, List.setIfInBounds_toArray, List.set_cons_zero, List.set_cons_succ, i64_w, i32_w]
              rfl
            refine pure_ (i := 1) (N := some 92) (v := ?_) (a' := ?_) #[true, true, false, false, false, false, false, false, false, false, false, false, false, false] rfl rfl (by kernel_rfl) (fun _ _ _ h => h) (Or.inl ⟨by rfl, ?_⟩) ?_ ?_
            rotate_left
            · intro w'
              go_simp
              with_reducible rfl
            rotate_left
            · simp only [Act.put, List.setIfInBounds_toArray, List.set_cons_zero, List.set_cons_succ, i64_w, i32_w]
              rfl
            refine pure_ (i := 2) (N := some 93) (v := ?_) (a' := ?_) #[true, true, true, false, false, false, false, false, false, false, false, false, false, false] rfl rfl (by kernel_rfl) (fun _ _ _ h => h) (Or.inl ⟨by rfl, ?_⟩) ?_ ?_
            rotate_left
            · intro w'
              go_simp
              with_reducible rfl
            rotate_left
            · simp only [Act.put, List.setIfInBounds_toArray, List.set_cons_zero, List.set_cons_succ, i64_w, i32_w]
              rfl
            refine pure_ (i := 4) (N := some 95) (v := ?_) (a' := ?_) #[true, true, true, false, true, false, false, false, false, false, false, false, false, false] rfl rfl (by kernel_rfl) (fun _ _ _ h => h) (Or.inl ⟨by rfl, ?_⟩) ?_ ?_
            rotate_left
            · intro w'
              go_simp
              with_reducible rfl
            rotate_left
            · simp only [Act.put, List.setIfInBounds_toArray, List.set_cons_zero, List.set_cons_succ, i64_w, i32_w]
              rfl
            refine pure_ (i := 5) (N := some 96) (v := ?_) (a' := ?_) #[true, true, true, false, true, true, false, false, false, false, false, false, false, false] rfl rfl (by kernel_rfl) (fun _ _ _ h => h) (Or.inl ⟨by rfl, ?_⟩) ?_ ?_
            rotate_left
            · intro w'
              go_simp
              with_reducible rfl
            rotate_left
            · simp only [Act.put, List.setIfInBounds_toArray, List.set_cons_zero, List.set_cons_succ, i64_w, i32_w]
              rfl
            refine pure_ (i := 6) (N := some 97) (v := ?_) (a' := ?_) #[true, true, true, false, true, true, true, false, false, false, false, false, false, false] rfl rfl (by kernel_rfl) (fun _ _ _ h => h) (Or.inl ⟨by rfl, ?_⟩) ?_ ?_
            rotate_left
            · intro w'
              go_simp
              with_reducible rfl
            rotate_left
            · simp only [Act.put, List.setIfInBounds_toArray, List.set_cons_zero, List.set_cons_succ, i64_w, i32_w]
              rfl
            refine take_ (i := 3) (N := some 94) (v := ?_) (a' := ?_) #[true, true, true, true, true, true, true, false, false, false, false, false, false, false] rfl rfl (by kernel_rfl) (fun _ _ _ h => h) (Or.inl ⟨by rfl, ?_⟩) hHeld ?_ ?_
            rotate_left
            · rintro w' ⟨s0, s1⟩
              go_simp
              with_reducible rfl
            rotate_left
            · simp only [Act.put, List.setIfInBounds_toArray, List.set_cons_zero, List.set_cons_succ, i64_w, i32_w]
              rfl
            refine take_ (i := 7) (N := some 98) (v := ?_) (a' := ?_) #[true, true, true, true, true, true, true, true, false, false, false, false, false, false] rfl rfl (by kernel_rfl) (fun _ _ _ h => h) (Or.inl ⟨by rfl, ?_⟩) hHeld ?_ ?_
            rotate_left
            · rintro w' ⟨s0, s1⟩
              go_simp
              with_reducible rfl
            rotate_left
            · simp only [Act.put, List.setIfInBounds_toArray, List.set_cons_zero, List.set_cons_succ, i64_w, i32_w]
              rfl
            refine one_ (i := 8) (N := some 99) #[true, true, true, true, true, true, true, true, true, false, false, false, false, false] rfl rfl (by kernel_rfl) (by decide) (fun K hK => ?_)
            refine goes_ Try.func11 (by kernel_rfl) rfl #[.pointer (some ⟨pl3, 0, none⟩), .int .i64 x] (by rfl) rfl rfl (by simp only [List.map_toArray, List.map_cons, List.map_nil]; rfl) ?_
            with_reducible refine (HSTP.out).mono ?_
            rintro ev w6 ⟨rfl, h6⟩
            have HC6 := Aside0.mk h6
            have y6 := h6.cells.1
            have hx6 : w6.cell? (ad.add i) = some (.int .i64 x) := HRD.out h6.fin
            clear h6
            refine ⟨_, rfl, ?_⟩
            refine hK.out _ _ ⟨y6, hx6⟩ (fun hHeld => ?_)
            clear hK K
            refine norm_ (a' := ?_) ?_ ?_
            rotate_left
            · show Act.put _ (some 99) _ = _
              simp only [Act.put, List.setIfInBounds_toArray, List.set_cons_zero, List.set_cons_succ, i64_w, i32_w]
              rfl
            refine pure_ (i := 9) (N := some 90) (v := ?_) (a' := ?_) #[true, true, true, true, true, true, true, true, true, true, false, false, false, false] rfl rfl (by kernel_rfl) (fun _ _ _ h => h) (Or.inl ⟨by rfl, ?_⟩) ?_ ?_
            rotate_left
            · intro w'
              go_simp
              with_reducible rfl
            rotate_left
            · simp only [Act.put, List.setIfInBounds_toArray, List.set_cons_zero, List.set_cons_succ, i64_w, i32_w]
              rfl
            refine pure_ (i := 10) (N := some 100) (v := ?_) (a' := ?_) #[true, true, true, true, true, true, true, true, true, true, true, false, false, false] rfl rfl (by kernel_rfl) (fun _ _ _ h => h) (Or.inl ⟨by rfl, ?_⟩) ?_ ?_
            rotate_left
            · intro w'
              go_simp
              with_reducible rfl
            rotate_left
            · simp only [Act.put, List.setIfInBounds_toArray, List.set_cons_zero, List.set_cons_succ, i64_w, i32_w]
              rfl
            refine pure_ (i := 11) (N := some 101) (v := ?_) (a' := ?_) #[true, true, true, true, true, true, true, true, true, true, true, true, false, false] rfl rfl (by kernel_rfl) (fun _ _ _ h => h) (Or.inl ⟨by rfl, ?_⟩) ?_ ?_
            rotate_left
            · intro w'
              go_simp
              with_reducible rfl
            rotate_left
            · simp only [Act.put, List.setIfInBounds_toArray, List.set_cons_zero, List.set_cons_succ, i64_w, i32_w]
              rfl
            refine pure_ (i := 12) (N := some 12) (v := ?_) (a' := ?_) #[true, true, true, true, true, true, true, true, true, true, true, true, true, false] rfl rfl (by kernel_rfl) (fun _ _ _ h => h) (Or.inl ⟨by rfl, ?_⟩) ?_ ?_
            rotate_left
            · intro w'
              go_simp
              with_reducible rfl
            rotate_left
            · simp only [Act.put, List.setIfInBounds_toArray, List.set_cons_zero, List.set_cons_succ, i64_w, i32_w]
              rfl
            refine pure_ (i := 13) (N := some 13) (v := ?_) (a' := ?_) #[true, true, true, true, true, true, true, true, true, true, true, true, true, true] rfl rfl (by kernel_rfl) (fun _ _ _ h => h) (Or.inl ⟨by rfl, ?_⟩) ?_ ?_
            rotate_left
            · intro w'
              go_simp
              with_reducible rfl
            rotate_left
            · simp only [Act.put, List.setIfInBounds_toArray, List.set_cons_zero, List.set_cons_succ, i64_w, i32_w]
              rfl
            refine done_ (by kernel_rfl) ?_
            go_wp2
            go_roundg k1
            case measure => omega
            case rel => exact ⟨i + 1, j + 1, by first | rfl | (congr 1; omega) | (simp; done), hla, by omega, by omega, HK1, HC6⟩
          · rw [if_neg h0, if_neg h0, decide_eq_false h0] at hstp
            have HSTP := Aside0.mk hstp
            have d0 : decide (0 ≤ x) = false := decide_eq_false h0
            clear hstp
            go_upto_region 14 with (fail)
            refine start_ (n := 14) (S := fun w' => w'.cell? ⟨q, 0, none⟩ = some (.pointer (some ⟨pl3, 0, none⟩)) ∧ w'.cell? (ad.add i) = some (.int .i64 x)) (ds := []) #[false, false, false, false, false, false, false, false, false, false, false, false, false, false] (by kernel_rfl) rfl rfl ⟨y0, hx⟩ (fun hHeld => ?_)
            refine pure_ (i := 0) (N := some 91) (v := ?_) (a' := ?_) #[true, false, false, false, false, false, false, false, false, false, false, false, false, false] rfl rfl (by kernel_rfl) (fun _ _ _ h => h) (Or.inl ⟨by rfl, ?_⟩) ?_ ?_
            rotate_left
            · intro w'
              go_simp
              with_reducible rfl
            rotate_left
            · simp only [Act.put, List.setIfInBounds_toArray, List.set_cons_zero, List.set_cons_succ, i64_w, i32_w]
              rfl
            refine pure_ (i := 1) (N := some 92) (v := ?_) (a' := ?_) #[true, true, false, false, false, false, false, false, false, false, false, false, false, false] rfl rfl (by kernel_rfl) (fun _ _ _ h => h) (Or.inl ⟨by rfl, ?_⟩) ?_ ?_
            rotate_left
            · intro w'
              go_simp
              with_reducible rfl
            rotate_left
            · simp only [Act.put, List.setIfInBounds_toArray, List.set_cons_zero, List.set_cons_succ, i64_w, i32_w]
              rfl
            refine pure_ (i := 2) (N := some 93) (v := ?_) (a' := ?_) #[true, true, true, false, false, false, false, false, false, false, false, false, false, false] rfl rfl (by kernel_rfl) (fun _ _ _ h => h) (Or.inl ⟨by rfl, ?_⟩) ?_ ?_
            rotate_left
            · intro w'
              go_simp
              with_reducible rfl
            rotate_left
            · simp only [Act.put, List.setIfInBounds_toArray, List.set_cons_zero, List.set_cons_succ, i64_w, i32_w]
              rfl
            refine pure_ (i := 4) (N := some 95) (v := ?_) (a' := ?_) #[true, true, true, false, true, false, false, false, false, false, false, false, false, false] rfl rfl (by kernel_rfl) (fun _ _ _ h => h) (Or.inl ⟨by rfl, ?_⟩) ?_ ?_
            rotate_left
            · intro w'
              go_simp
              with_reducible rfl
            rotate_left
            · simp only [Act.put, List.setIfInBounds_toArray, List.set_cons_zero, List.set_cons_succ, i64_w, i32_w]
              rfl
            refine pure_ (i := 5) (N := some 96) (v := ?_) (a' := ?_) #[true, true, true, false, true, true, false, false, false, false, false, false, false, false] rfl rfl (by kernel_rfl) (fun _ _ _ h => h) (Or.inl ⟨by rfl, ?_⟩) ?_ ?_
            rotate_left
            · intro w'
              go_simp
              with_reducible rfl
            rotate_left
            · simp only [Act.put, List.setIfInBounds_toArray, List.set_cons_zero, List.set_cons_succ, i64_w, i32_w]
              rfl
            refine pure_ (i := 6) (N := some 97) (v := ?_) (a' := ?_) #[true, true, true, false, true, true, true, false, false, false, false, false, false, false] rfl rfl (by kernel_rfl) (fun _ _ _ h => h) (Or.inl ⟨by rfl, ?_⟩) ?_ ?_
            rotate_left
            · intro w'
              go_simp
              with_reducible rfl
            rotate_left
            · simp only [Act.put, List.setIfInBounds_toArray, List.set_cons_zero, List.set_cons_succ, i64_w, i32_w]
              rfl
            refine take_ (i := 3) (N := some 94) (v := ?_) (a' := ?_) #[true, true, true, true, true, true, true, false, false, false, false, false, false, false] rfl rfl (by kernel_rfl) (fun _ _ _ h => h) (Or.inl ⟨by rfl, ?_⟩) hHeld ?_ ?_
            rotate_left
            · rintro w' ⟨s0, s1⟩
              go_simp
              with_reducible rfl
            rotate_left
            · simp only [Act.put, List.setIfInBounds_toArray, List.set_cons_zero, List.set_cons_succ, i64_w, i32_w]
              rfl
            refine take_ (i := 7) (N := some 98) (v := ?_) (a' := ?_) #[true, true, true, true, true, true, true, true, false, false, false, false, false, false] rfl rfl (by kernel_rfl) (fun _ _ _ h => h) (Or.inl ⟨by rfl, ?_⟩) hHeld ?_ ?_
            rotate_left
            · rintro w' ⟨s0, s1⟩
              go_simp
              with_reducible rfl
            rotate_left
            · simp only [Act.put, List.setIfInBounds_toArray, List.set_cons_zero, List.set_cons_succ, i64_w, i32_w]
              rfl
            refine one_ (i := 8) (N := some 99) #[true, true, true, true, true, true, true, true, true, false, false, false, false, false] rfl rfl (by kernel_rfl) (by decide) (fun K hK => ?_)
            refine goes_ Try.func11 (by kernel_rfl) rfl #[.pointer (some ⟨pl3, 0, none⟩), .int .i64 x] (by rfl) rfl rfl (by simp only [List.map_toArray, List.map_cons, List.map_nil]; rfl) ?_
            with_reducible refine (HSTP.out).mono ?_
            rintro ev w6 ⟨rfl, h6⟩
            have HC6 := Aside0.mk h6
            have y6 := h6.cells.1
            have hx6 : w6.cell? (ad.add i) = some (.int .i64 x) := HRD.out h6.fin
            clear h6
            refine ⟨_, rfl, ?_⟩
            refine hK.out _ _ ⟨y6, hx6⟩ (fun hHeld => ?_)
            clear hK K
            refine norm_ (a' := ?_) ?_ ?_
            rotate_left
            · show Act.put _ (some 99) _ = _
              simp only [Act.put, List.setIfInBounds_toArray, List.set_cons_zero, List.set_cons_succ, i64_w, i32_w]
              rfl
            refine pure_ (i := 9) (N := some 90) (v := ?_) (a' := ?_) #[true, true, true, true, true, true, true, true, true, true, false, false, false, false] rfl rfl (by kernel_rfl) (fun _ _ _ h => h) (Or.inl ⟨by rfl, ?_⟩) ?_ ?_
            rotate_left
            · intro w'
              go_simp
              with_reducible rfl
            rotate_left
            · simp only [Act.put, List.setIfInBounds_toArray, List.set_cons_zero, List.set_cons_succ, i64_w, i32_w]
              rfl
            refine pure_ (i := 10) (N := some 100) (v := ?_) (a' := ?_) #[true, true, true, true, true, true, true, true, true, true, true, false, false, false] rfl rfl (by kernel_rfl) (fun _ _ _ h => h) (Or.inl ⟨by rfl, ?_⟩) ?_ ?_
            rotate_left
            · intro w'
              go_simp
              with_reducible rfl
            rotate_left
            · simp only [Act.put, List.setIfInBounds_toArray, List.set_cons_zero, List.set_cons_succ, i64_w, i32_w]
              rfl
            refine pure_ (i := 11) (N := some 101) (v := ?_) (a' := ?_) #[true, true, true, true, true, true, true, true, true, true, true, true, false, false] rfl rfl (by kernel_rfl) (fun _ _ _ h => h) (Or.inl ⟨by rfl, ?_⟩) ?_ ?_
            rotate_left
            · intro w'
              go_simp
              with_reducible rfl
            rotate_left
            · simp only [Act.put, List.setIfInBounds_toArray, List.set_cons_zero, List.set_cons_succ, i64_w, i32_w]
              rfl
            refine pure_ (i := 12) (N := some 12) (v := ?_) (a' := ?_) #[true, true, true, true, true, true, true, true, true, true, true, true, true, false] rfl rfl (by kernel_rfl) (fun _ _ _ h => h) (Or.inl ⟨by rfl, ?_⟩) ?_ ?_
            rotate_left
            · intro w'
              go_simp
              with_reducible rfl
            rotate_left
            · simp only [Act.put, List.setIfInBounds_toArray, List.set_cons_zero, List.set_cons_succ, i64_w, i32_w]
              rfl
            refine pure_ (i := 13) (N := some 13) (v := ?_) (a' := ?_) #[true, true, true, true, true, true, true, true, true, true, true, true, true, true] rfl rfl (by kernel_rfl) (fun _ _ _ h => h) (Or.inl ⟨by rfl, ?_⟩) ?_ ?_
            rotate_left
            · intro w'
              go_simp
              with_reducible rfl
            rotate_left
            · simp only [Act.put, List.setIfInBounds_toArray, List.set_cons_zero, List.set_cons_succ, i64_w, i32_w]
              rfl
            refine done_ (by kernel_rfl) ?_
            go_wp2
            go_roundg k1
            case measure => omega
            case rel => exact ⟨i + 1, j, by first | rfl | (congr 1; omega) | (simp; done), hla, by omega, by omega, HK1, HC6⟩
        · have HW := Aside0.mk (HCU.out.lwaits2 (xs := [ch, 0]) (by show 2 ≤ 64; omega) rfl)
          have dF : decide (([ch, 0] : List Int) = [ch, 0]) = true := decide_eq_true rfl
          have dG : decide (([0, 1] : List Int) = [0, 1]) = true := by decide
          have HWK := Aside0.mk (fun (W : World) (h : Cu 0 gData w q pl3 pr3 (WS ch ch j) (W0 ch) W) => show Calls Try.prog 14 #[.pointer (some ⟨pl3, 0, none⟩), .int .i64 ch] W fun e w' => e = .returned (.int .i64 1) ∧ Cu 0 gData w q pl3 pr3 (WS ch 0 j) (W0 ch) w' from by
            have := h.lwake (by show 2 ≤ 64; omega) ch
            rw [(WS_wake ch hr.1 j).1, (WS_wake ch hr.1 j).2] at this
            exact this)
          have HRY := Aside0.mk (fun (W : World) (h : Cu 0 gData w q pl3 pr3 (WS ch 0 j) (W0 ch) W) => h.lready2 (xs := [0, 1]) (by show 2 ≤ 64; omega) (WS_ready0 ch j))
          by_cases hl1 : i < picks.length
          · have dl1 : decide ((i : Int) < (picks.length : Int)) = true := decide_eq_true (by omega)
            have dl2 : decide ((i : Int) < 200) = false := decide_eq_false (by omega)
            go_wp2_with (first
              | (go_at_call 13; refine HW.out.mono ?_; rintro e w6 ⟨Av, cv, rfl, hcv, hC6, h6⟩; have HC6 := Aside0.mk h6; have HS6 := Aside0.mk (same_lit h6 hcv hC6 [ch, 0] (by show 2 ≤ 9223372036854775807; omega)); clear hcv hC6 h6)
              | (go_at_call 12; refine (HS9.out _ (by first | exact Below.refl _ _ | exact below_drew (Below.refl _ _))).mono ?_; rintro e w10 ⟨rfl, h10⟩)
              | (go_at_call 12; refine (HS6.out _ (by first | exact Below.refl _ _ | exact below_drew (Below.refl _ _))).mono ?_; rintro e w7 ⟨rfl, h7⟩; have HC7 := Aside0.mk h7; have y1 := h7.cells.1; clear h7)
              | (go_at_call 14; refine (HWK.out _ (by first | exact HC7.out | exact HC7.out.drew)).mono ?_; rintro e w8 ⟨rfl, h8⟩; have HC8 := Aside0.mk h8; have y2 := h8.cells.1; clear h8)
              | (go_at_call 15; refine (HRY.out _ (by first | exact HC8.out | exact HC8.out.drew)).mono ?_; rintro e w9 ⟨Aw, cw, rfl, hcw, hC9, h9⟩; have HC9 := Aside0.mk h9; have HS9 := Aside0.mk (same_lit h9 hcw hC9 [0, 1] (by decide)); clear hcw hC9 h9))
            go_ret
            exact ⟨rfl, h10.fin⟩
          · have dl1 : decide ((i : Int) < (picks.length : Int)) = false := decide_eq_false (by omega)
            go_wp2_with (first
              | (go_at_call 13; refine HW.out.mono ?_; rintro e w6 ⟨Av, cv, rfl, hcv, hC6, h6⟩; have HC6 := Aside0.mk h6; have HS6 := Aside0.mk (same_lit h6 hcv hC6 [ch, 0] (by show 2 ≤ 9223372036854775807; omega)); clear hcv hC6 h6)
              | (go_at_call 12; refine (HS9.out _ (by first | exact Below.refl _ _ | exact below_drew (Below.refl _ _))).mono ?_; rintro e w10 ⟨rfl, h10⟩)
              | (go_at_call 12; refine (HS6.out _ (by first | exact Below.refl _ _ | exact below_drew (Below.refl _ _))).mono ?_; rintro e w7 ⟨rfl, h7⟩; have HC7 := Aside0.mk h7; have y1 := h7.cells.1; clear h7)
              | (go_at_call 14; refine (HWK.out _ (by first | exact HC7.out | exact HC7.out.drew)).mono ?_; rintro e w8 ⟨rfl, h8⟩; have HC8 := Aside0.mk h8; have y2 := h8.cells.1; clear h8)
              | (go_at_call 15; refine (HRY.out _ (by first | exact HC8.out | exact HC8.out.drew)).mono ?_; rintro e w9 ⟨Aw, cw, rfl, hcw, hC9, h9⟩; have HC9 := Aside0.mk h9; have HS9 := Aside0.mk (same_lit h9 hcw hC9 [0, 1] (by decide)); clear hcw hC9 h9))
            go_ret
            exact ⟨rfl, h10.fin⟩
  · rw [if_neg hr] at HC4
    have z0 := HC4.out.cells.1
    have HW := Aside0.mk (HC4.out.lwaits2 (xs := [0, 0]) (by show 2 ≤ 64; omega) rfl)
    have dF : decide (([0, 0] : List Int) = [0, 0]) = true := by decide
    by_cases h1 : ch < 1
    · have hb1 : decide (ch < 1) = true := decide_eq_true (by omega)
      go_wp2_with (first
        | (go_at_call 13; refine HW.out.mono ?_; rintro e w5 ⟨Av, cv, rfl, hcv, hC5, h5⟩; have HC5 := Aside0.mk h5; have HS5 := Aside0.mk (same_lit h5 hcv hC5 [0, 0] (by decide)); clear hcv hC5 h5)
        | (go_at_call 12; refine (HS5.out _ (by first | exact Below.refl _ _ | exact below_drew (Below.refl _ _))).mono ?_; rintro e w6 ⟨rfl, h6⟩))
      go_ret
      exact ⟨rfl, h6.fin⟩
    · have hb1 : decide (ch < 1) = false := decide_eq_false (by omega)
      have hb2 : decide (1024 < ch) = true := decide_eq_true (by omega)
      go_wp2_with (first
        | (go_at_call 13; refine HW.out.mono ?_; rintro e w5 ⟨Av, cv, rfl, hcv, hC5, h5⟩; have HC5 := Aside0.mk h5; have HS5 := Aside0.mk (same_lit h5 hcv hC5 [0, 0] (by decide)); clear hcv hC5 h5)
        | (go_at_call 12; refine (HS5.out _ (by first | exact Below.refl _ _ | exact below_drew (Below.refl _ _))).mono ?_; rintro e w6 ⟨rfl, h6⟩))
      go_ret
      exact ⟨rfl, h6.fin⟩
end Go.Proofs.Ytompgphlinjglaa.P
