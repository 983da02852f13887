/- SchedTurns. -/
import Derived.Test.YtompgphlinjglaaS27
import Derived.Test.YtompgphlinjglaaS28
namespace Go.Proofs.Ytompgphlinjglaa.P
open Go.RowKit Go.Proofs.YtompgphlinjglaaW.PrintWords Go.Proofs.YtompgphlinjglaaW.PrintLast Go.Proofs.YtompgphlinjglaaW.PrintMore
attribute [local go_sem] Oper.semAt_some
set_option linter.unusedVariables false
set_option linter.unusedSimpArgs false

theorem tmod_lt (a b : Int) (hb : 0 < b) : Int.tmod a b < b := Int.tmod_lt_of_pos a hb
theorem Cu.only {k : Nat} {w w0 : World} {g0 : Nat → Tag} {q pl pr : Nat} {S R : LS} (h : Cu k g0 w0 q pl pr S R w) : Only (TB k) g0 w0 w := by obtain ⟨g, e, o, b⟩ := h; exact o
theorem Only.fin0 {k : Nat} {w w1 : World} (h : Only (TB k) gData w w1) : Below w.heap.size w w1 := h.fin (fun _ _ => rfl) TB_data
set_option maxHeartbeats 8000000 in
set_option maxRecDepth 100000 in
theorem schedTurnsNot_calls (count rounds : Int) (A : Option Addr) (c : Nat) (ticks : List Int) (w : World) (hC : Kd.C (Kd.int .i64) w A ticks.length ticks) (hc : ticks.length ≤ c) (hk : checkF [] ticks [] ≠ 0) :
    Calls Try.prog 5 #[.slice A ticks.length c, .int .i64 count, .int .i64 rounds] w fun e w' => e = .returned (.bool true) ∧ Below w.heap.size w w' := by
  have HS := Aside0.mk (startNot_calls none 0 [] A c ticks none 0 [] w (Kd.C_nil _ _) (Nat.le_refl _) hC hc (Kd.C_nil _ _) (Nat.le_refl _) hk)
  clear hC hc hk
  go_enter Try.func5, Try.ntmps5
  go_wp2_with (go_at_call 9; refine HS.out.mono ?_; rintro e w1 ⟨rfl, hb⟩; have HB := Aside0.mk hb; clear hb)
  go_ret
  exact ⟨rfl, HB.out⟩
set_option maxHeartbeats 8000000 in
set_option maxRecDepth 100000 in
theorem schedTurns_calls (count rounds : Int) (A : Option Addr) (c : Nat) (ticks : List Int) (w : World) (hC : Kd.C (Kd.int .i64) w A ticks.length ticks) (hc : ticks.length ≤ c) (hk : checkF [] ticks [] = 0) (hlen : ticks.length ≤ 65536) :
    Calls Try.prog 5 #[.slice A ticks.length c, .int .i64 count, .int .i64 rounds] w fun e w' => e = .returned (.bool true) ∧ Below w.heap.size w w' := by
  have HC := Aside0.mk hC
  have hs := start_calls 0 gData none 0 [] A c ticks none 0 [] w (dat_arg (Kd.heap_int _) (Kd.C_nil _ _)) (Nat.le_refl _) (dat_arg (Kd.heap_int _) hC) hc (dat_arg (Kd.heap_int _) (Kd.C_nil _ _)) (Nat.le_refl _) hk ⟨by show 0 ≤ 65536; omega, hlen, by show 0 ≤ 65536; omega⟩
  have HS := Aside0.mk hs
  clear hC hs
  go_enter Try.func5, Try.ntmps5
  go_upto_region 2 with (go_at_call 9; refine HS.out.mono ?_; rintro e w1 ⟨q, rfl, hb, g1, he, hbo⟩; obtain ⟨pl, pr, hcu⟩ := Cu.of_both he hb hbo; have HC1 := Aside0.mk hcu; clear hb he hbo hcu)
  clear HS
  have HLEN := Aside0.mk hlen
  by_cases h1 : Int.tmod count 64 < 1 <;> by_cases h2 : Int.tmod rounds 50 < 0
  · have d1 : decide (Int.tmod count 64 < 1) = true := decide_eq_true h1
    go_upto_region 6 with (fail)
    clear d1
    go_cut [9] (fun v9 w' => ∃ n : Nat, v9 = .int .i64 n ∧ 1 ≤ n ∧ n ≤ 63 ∧ w1 = w')
    case first =>
      go_wp2
      go_meet
      case rel => exact ⟨1, rfl, by omega, by omega, rfl⟩
    case rest =>
      obtain ⟨n, rfl, hn1, hn63, rfl⟩ := hcut
      have d2 : decide (Int.tmod rounds 50 < 0) = true := decide_eq_true h2
      go_upto_region 9 with (fail)
      clear d2
      go_cut [10] (fun v10 w' => ∃ m : Nat, v10 = .int .i64 m ∧ m ≤ 49 ∧ w1 = w')
      case first =>
        go_wp2
        go_meet
        case rel => exact ⟨0, rfl, by omega, rfl⟩
      case rest =>
        obtain ⟨m, rfl, hm49, rfl⟩ := hcut
        have hmk : ∀ W : World, (Instr.makeSlice 32 (.int .i64 ((m : Int) + 1)) (.int .i64 ((m : Int) + 1))).run Try.prog W = .ok (.slice (some ⟨W.heap.size, 0, none⟩) (m + 1) (m + 1)) (W.alloc (.cells (actCells (zActs (m + 1))).toArray 31)) := fun W => makeActs (m + 1) (by omega) W
        go_upto_region 11 with (fail)
        obtain ⟨g2, e2, o2, hc2, hd2⟩ := HC1.out.lit (zActs (m + 1)) (by rw [zActs_len]; omega) (below_alloc (Below.refl _ _) (.cells (actCells (zActs (m + 1))).toArray 31)) (Nat.le_refl _) (blk_new w1 _)
        rw [zActs_len] at hd2
        have E2 := Aside0.mk e2
        have O2 := Aside0.mk o2
        have D2 := Aside0.mk hd2
        have HC2 := Aside0.mk hc2
        rw [TZ_zero (m + 1)] at HC2
        have HADD := Aside0.mk (fun (i : Nat) (hi : i < 64) (W : World) (pl pr : Nat) (h : Cu 0 g2 (w1.alloc (.cells (actCells (zActs (m + 1))).toArray 31)) q pl pr (TZ (m + 1) ticks i) (TZ (m + 1) ticks i) W) => show Calls Try.prog 10 #[.pointer (some ⟨q, 0, none⟩), .slice (some ⟨w1.heap.size, 0, none⟩) (m + 1) (m + 1)] W fun e w' => e = .returned (.bool true) ∧ ∃ pl pr, Cu 0 g2 (w1.alloc (.cells (actCells (zActs (m + 1))).toArray 31)) q pl pr (TZ (m + 1) ticks (i + 1)) (TZ (m + 1) ticks (i + 1)) w' from by
          have h2 := h.add (acts := zActs (m + 1)) (c := m + 1) (by rw [zActs_len]; exact D2.out) (Nat.le_of_eq (zActs_len _)) (by rw [zActs_len]; omega) (by show (List.replicate i _).length ≤ 64; rw [List.length_replicate]; omega)
          rw [zActs_len, TZ_add _ _ _ hi] at h2
          exact h2)
        clear e2 o2 hc2 hd2 hmk h1 h2
        generalize w1.alloc (.cells (actCells (zActs (m + 1))).toArray 31) = w2 at O2 D2 HC2 HADD ⊢
        clear D2
        have HTI := Aside0.mk (TI.zero (n := n) (m := m) (ticks := ticks) (by omega) (by omega) hm49 HLEN.out)
        have hnz : ((n : Int) == 0) = false := by simp; omega
        go_wp2
        go_loopg [12] n (fun kq v12 w' => ∃ (i pl pr : Nat), v12 = .int .i64 i ∧ i ≤ n ∧ Aside0 (kq = n - i) ∧ Aside0 (Cu 0 g2 w2 q pl pr (TZ (m + 1) ticks i) (TZ (m + 1) ticks i) w'))
        case atStart => exact ⟨0, pl, pr, rfl, Nat.zero_le _, ⟨rfl⟩, HC2⟩
        case round =>
          obtain ⟨i, pl3, pr3, rfl, hi, HK, HCU⟩ := hrel
          by_cases hlt : i < n
          · obtain ⟨k1, rfl⟩ : ∃ k1, gk = k1 + 1 := ⟨gk - 1, by have := HK.out; omega⟩
            have HK1 := Aside0.mk (show k1 = n - (i + 1) by have := HK.out; omega)
            have HAD := Aside0.mk (HADD.out i (by omega) _ _ _ HCU.out)
            clear HK
            go_wp2_with (go_at_call 10; refine HAD.out.mono ?_; rintro e w5 ⟨rfl, pl5, pr5, h5⟩; have HC5 := Aside0.mk h5; clear h5)
            go_roundg k1
            case measure => omega
            case rel => exact ⟨i + 1, pl5, pr5, by first | rfl | (congr 1; omega) | (simp; done), hlt, HK1, HC5⟩
          · obtain rfl : i = n := by omega
            obtain ⟨p, hp⟩ : ∃ p, i * m = p := ⟨_, rfl⟩
            have hp2 : p ≤ 3087 := by rw [← hp]; exact Nat.le_trans (Nat.mul_le_mul hn63 hm49) (by decide)
            have hpz : (i : Int) * (m : Int) = (p : Int) := by rw [← hp]; rfl
            have HP := Aside0.mk hp
            clear hp HADD HK
            go_wp2
            go_loopg [13, 14] p (fun kq v13 v14 w' => ∃ (j : Nat) (T : LS) (cl : Int), v13 = .int .u64 cl ∧ v14 = .int .i64 j ∧ j ≤ p ∧ Aside0 (T.clock = cl) ∧ Aside0 (kq = p - j) ∧ Aside0 (TI i m ticks j T) ∧ Aside0 (Cu 0 g2 w2 q pl3 pr3 T (TZ (m + 1) ticks i) w'))
            case atStart => exact ⟨0, _, 0, rfl, rfl, Nat.zero_le _, ⟨rfl⟩, ⟨rfl⟩, HTI, HCU⟩
            case round =>
              clear HTI HCU
              obtain ⟨j, T, cl, rfl, rfl, hj, HCL, HK, HTI, HCU⟩ := hrel
              have y0 := HCU.out.cells.1
              by_cases hlt : j < p
              · obtain ⟨k1, rfl⟩ : ∃ k1, gk = k1 + 1 := ⟨gk - 1, by have := HK.out; omega⟩
                have HK1 := Aside0.mk (show k1 = p - (j + 1) by have := HK.out; omega)
                have hip : j < i * m := by rw [HP.out]; exact hlt
                have hstp := HCU.out.lstep HTI.out.good (by omega) (j : Int)
                rw [HTI.out.who (by omega), HTI.out.steps (by omega)] at hstp
                have HSTP := Aside0.mk hstp
                have HCK := Aside0.mk (HTI.out.clock (by omega) hip)
                have HTN := Aside0.mk (HTI.out.next (by omega) hip)
                have htm : Int.tmod (j : Int) (i : Int) = ((j % i : Nat) : Int) := rfl
                obtain ⟨x, hx⟩ : ∃ x, ((j % i : Nat) : Int) = x := ⟨_, rfl⟩
                rw [hx] at htm HSTP
                clear hx hstp HK hip
                by_cases htl : j < ticks.length
                · have dl : decide ((j : Int) < (ticks.length : Int)) = true := decide_eq_true (by omega)
                  obtain ⟨ad, e1, hxx⟩ := Kd.at_int (Kd.C_below HC.out (O2.out.trans HCU.out.only E2.out).fin0) (j : Int) (Int.natCast_nonneg _) (by omega)
                  rw [Int.toNat_natCast] at hxx
                  cases e1
                  obtain ⟨tk, htk⟩ : ∃ tk, rd ticks (j : Int) = tk := ⟨_, rfl⟩
                  rw [htk] at hxx
                  have HC9 := Aside0.mk (show (stepF T j).clock = IntKind.u64.wrap (cl + IntKind.u64.wrap tk) by rw [HCK.out, if_pos htl, HCL.out, ← htk]; simp [rd])
                  clear htk HCK
                  go_wp2_with (first
                    | (go_at_call 11; refine HSTP.out.mono ?_; rintro e w5 ⟨rfl, h5⟩; have HC5 := Aside0.mk h5; have y1 := h5.cells.1; have HNW := Aside0.mk h5.lnow; rw [HC9.out] at HNW; clear h5)
                    | (go_at_call 19; refine HNW.out.mono ?_; rintro e w6 ⟨rfl, rfl⟩))
                  go_roundg k1
                  case measure => omega
                  case rel => exact ⟨j + 1, _, _, rfl, by first | rfl | (congr 1; omega) | (simp; done), hlt, HC9, HK1, HTN, HC5⟩
                · have dl : decide ((j : Int) < (ticks.length : Int)) = false := decide_eq_false (by omega)
                  have HC9 := Aside0.mk (show (stepF T j).clock = cl by rw [HCK.out, if_neg htl, HCL.out])
                  clear HCK
                  go_wp2_with (first
                    | (go_at_call 11; refine HSTP.out.mono ?_; rintro e w5 ⟨rfl, h5⟩; have HC5 := Aside0.mk h5; have y1 := h5.cells.1; have HNW := Aside0.mk h5.lnow; rw [HC9.out] at HNW; clear h5)
                    | (go_at_call 19; refine HNW.out.mono ?_; rintro e w6 ⟨rfl, rfl⟩))
                  go_roundg k1
                  case measure => omega
                  case rel => exact ⟨j + 1, _, _, rfl, by first | rfl | (congr 1; omega) | (simp; done), hlt, HC9, HK1, HTN, HC5⟩
              · obtain rfl : j = p := by omega
                have HST := Aside0.mk (fun (W : World) (h : Cu 0 g2 w2 q pl3 pr3 T (TZ (m + 1) ticks i) W) => show Calls Try.prog 18 #[.pointer (some ⟨pl3, 0, none⟩)] W fun e w' => e = .returned (.int .i64 j) ∧ W = w' from by
                  have := h.lsteps
                  rw [HTI.out.count] at this
                  exact this)
                have HRY := Aside0.mk (show Calls Try.prog 15 #[.pointer (some ⟨pl3, 0, none⟩)] wr fun e w' => ∃ A c, e = .returned (.slice A i c) ∧ Cu 0 g2 w2 q pl3 pr3 T (TZ (m + 1) ticks i) w' from by
                  have h2 := HCU.out.lready2 (by rw [HTI.out.len]; omega) HTI.out.ready
                  refine h2.mono ?_
                  rintro e w' ⟨A, c, rfl, _, _, h3⟩
                  rw [List.length_map, List.length_range]
                  exact ⟨A, c, rfl, h3⟩)
                go_wp2_with (first
                  | (go_at_call 18; refine (HST.out _ HCU.out).mono ?_; rintro e w5 ⟨rfl, rfl⟩)
                  | (go_at_call 15; refine HRY.out.mono ?_; rintro e w6 ⟨A6, c6, rfl, h6⟩; have HC6 := Aside0.mk h6; clear h6))
                go_ret
                exact ⟨rfl, (O2.out.trans HC6.out.only E2.out).fin0⟩
  · have d1 : decide (Int.tmod count 64 < 1) = true := decide_eq_true h1
    go_upto_region 6 with (fail)
    clear d1
    go_cut [9] (fun v9 w' => ∃ n : Nat, v9 = .int .i64 n ∧ 1 ≤ n ∧ n ≤ 63 ∧ w1 = w')
    case first =>
      go_wp2
      go_meet
      case rel => exact ⟨1, rfl, by omega, by omega, rfl⟩
    case rest =>
      obtain ⟨n, rfl, hn1, hn63, rfl⟩ := hcut
      have d2 : decide (Int.tmod rounds 50 < 0) = false := decide_eq_false h2
      go_upto_region 10 with (fail)
      clear d2
      obtain ⟨m, hm, hm49⟩ : ∃ m : Nat, Int.tmod rounds 50 = m ∧ m ≤ 49 := by
        have hb := tmod_lt rounds 50 (by omega)
        exact ⟨(Int.tmod rounds 50).toNat, by omega, by omega⟩
      rw [hm]
      clear hm
      have hmk : ∀ W : World, (Instr.makeSlice 32 (.int .i64 ((m : Int) + 1)) (.int .i64 ((m : Int) + 1))).run Try.prog W = .ok (.slice (some ⟨W.heap.size, 0, none⟩) (m + 1) (m + 1)) (W.alloc (.cells (actCells (zActs (m + 1))).toArray 31)) := fun W => makeActs (m + 1) (by omega) W
      go_upto_region 11 with (fail)
      obtain ⟨g2, e2, o2, hc2, hd2⟩ := HC1.out.lit (zActs (m + 1)) (by rw [zActs_len]; omega) (below_alloc (Below.refl _ _) (.cells (actCells (zActs (m + 1))).toArray 31)) (Nat.le_refl _) (blk_new w1 _)
      rw [zActs_len] at hd2
      have E2 := Aside0.mk e2
      have O2 := Aside0.mk o2
      have D2 := Aside0.mk hd2
      have HC2 := Aside0.mk hc2
      rw [TZ_zero (m + 1)] at HC2
      have HADD := Aside0.mk (fun (i : Nat) (hi : i < 64) (W : World) (pl pr : Nat) (h : Cu 0 g2 (w1.alloc (.cells (actCells (zActs (m + 1))).toArray 31)) q pl pr (TZ (m + 1) ticks i) (TZ (m + 1) ticks i) W) => show Calls Try.prog 10 #[.pointer (some ⟨q, 0, none⟩), .slice (some ⟨w1.heap.size, 0, none⟩) (m + 1) (m + 1)] W fun e w' => e = .returned (.bool true) ∧ ∃ pl pr, Cu 0 g2 (w1.alloc (.cells (actCells (zActs (m + 1))).toArray 31)) q pl pr (TZ (m + 1) ticks (i + 1)) (TZ (m + 1) ticks (i + 1)) w' from by
        have h2 := h.add (acts := zActs (m + 1)) (c := m + 1) (by rw [zActs_len]; exact D2.out) (Nat.le_of_eq (zActs_len _)) (by rw [zActs_len]; omega) (by show (List.replicate i _).length ≤ 64; rw [List.length_replicate]; omega)
        rw [zActs_len, TZ_add _ _ _ hi] at h2
        exact h2)
      clear e2 o2 hc2 hd2 hmk h1 h2
      generalize w1.alloc (.cells (actCells (zActs (m + 1))).toArray 31) = w2 at O2 D2 HC2 HADD ⊢
      clear D2
      have HTI := Aside0.mk (TI.zero (n := n) (m := m) (ticks := ticks) (by omega) (by omega) hm49 HLEN.out)
      have hnz : ((n : Int) == 0) = false := by simp; omega
      go_wp2
      go_loopg [12] n (fun kq v12 w' => ∃ (i pl pr : Nat), v12 = .int .i64 i ∧ i ≤ n ∧ Aside0 (kq = n - i) ∧ Aside0 (Cu 0 g2 w2 q pl pr (TZ (m + 1) ticks i) (TZ (m + 1) ticks i) w'))
      case atStart => exact ⟨0, pl, pr, rfl, Nat.zero_le _, ⟨rfl⟩, HC2⟩
      case round =>
        obtain ⟨i, pl3, pr3, rfl, hi, HK, HCU⟩ := hrel
        by_cases hlt : i < n
        · obtain ⟨k1, rfl⟩ : ∃ k1, gk = k1 + 1 := ⟨gk - 1, by have := HK.out; omega⟩
          have HK1 := Aside0.mk (show k1 = n - (i + 1) by have := HK.out; omega)
          have HAD := Aside0.mk (HADD.out i (by omega) _ _ _ HCU.out)
          clear HK
          go_wp2_with (go_at_call 10; refine HAD.out.mono ?_; rintro e w5 ⟨rfl, pl5, pr5, h5⟩; have HC5 := Aside0.mk h5; clear h5)
          go_roundg k1
          case measure => omega
          case rel => exact ⟨i + 1, pl5, pr5, by first | rfl | (congr 1; omega) | (simp; done), hlt, HK1, HC5⟩
        · obtain rfl : i = n := by omega
          obtain ⟨p, hp⟩ : ∃ p, i * m = p := ⟨_, rfl⟩
          have hp2 : p ≤ 3087 := by rw [← hp]; exact Nat.le_trans (Nat.mul_le_mul hn63 hm49) (by decide)
          have hpz : (i : Int) * (m : Int) = (p : Int) := by rw [← hp]; rfl
          have HP := Aside0.mk hp
          clear hp HADD HK
          go_wp2
          go_loopg [13, 14] p (fun kq v13 v14 w' => ∃ (j : Nat) (T : LS) (cl : Int), v13 = .int .u64 cl ∧ v14 = .int .i64 j ∧ j ≤ p ∧ Aside0 (T.clock = cl) ∧ Aside0 (kq = p - j) ∧ Aside0 (TI i m ticks j T) ∧ Aside0 (Cu 0 g2 w2 q pl3 pr3 T (TZ (m + 1) ticks i) w'))
          case atStart => exact ⟨0, _, 0, rfl, rfl, Nat.zero_le _, ⟨rfl⟩, ⟨rfl⟩, HTI, HCU⟩
          case round =>
            clear HTI HCU
            obtain ⟨j, T, cl, rfl, rfl, hj, HCL, HK, HTI, HCU⟩ := hrel
            have y0 := HCU.out.cells.1
            by_cases hlt : j < p
            · obtain ⟨k1, rfl⟩ : ∃ k1, gk = k1 + 1 := ⟨gk - 1, by have := HK.out; omega⟩
              have HK1 := Aside0.mk (show k1 = p - (j + 1) by have := HK.out; omega)
              have hip : j < i * m := by rw [HP.out]; exact hlt
              have hstp := HCU.out.lstep HTI.out.good (by omega) (j : Int)
              rw [HTI.out.who (by omega), HTI.out.steps (by omega)] at hstp
              have HSTP := Aside0.mk hstp
              have HCK := Aside0.mk (HTI.out.clock (by omega) hip)
              have HTN := Aside0.mk (HTI.out.next (by omega) hip)
              have htm : Int.tmod (j : Int) (i : Int) = ((j % i : Nat) : Int) := rfl
              obtain ⟨x, hx⟩ : ∃ x, ((j % i : Nat) : Int) = x := ⟨_, rfl⟩
              rw [hx] at htm HSTP
              clear hx hstp HK hip
              by_cases htl : j < ticks.length
              · have dl : decide ((j : Int) < (ticks.length : Int)) = true := decide_eq_true (by omega)
                obtain ⟨ad, e1, hxx⟩ := Kd.at_int (Kd.C_below HC.out (O2.out.trans HCU.out.only E2.out).fin0) (j : Int) (Int.natCast_nonneg _) (by omega)
                rw [Int.toNat_natCast] at hxx
                cases e1
                obtain ⟨tk, htk⟩ : ∃ tk, rd ticks (j : Int) = tk := ⟨_, rfl⟩
                rw [htk] at hxx
                have HC9 := Aside0.mk (show (stepF T j).clock = IntKind.u64.wrap (cl + IntKind.u64.wrap tk) by rw [HCK.out, if_pos htl, HCL.out, ← htk]; simp [rd])
                clear htk HCK
                go_wp2_with (first
                  | (go_at_call 11; refine HSTP.out.mono ?_; rintro e w5 ⟨rfl, h5⟩; have HC5 := Aside0.mk h5; have y1 := h5.cells.1; have HNW := Aside0.mk h5.lnow; rw [HC9.out] at HNW; clear h5)
                  | (go_at_call 19; refine HNW.out.mono ?_; rintro e w6 ⟨rfl, rfl⟩))
                go_roundg k1
                case measure => omega
                case rel => exact ⟨j + 1, _, _, rfl, by first | rfl | (congr 1; omega) | (simp; done), hlt, HC9, HK1, HTN, HC5⟩
              · have dl : decide ((j : Int) < (ticks.length : Int)) = false := decide_eq_false (by omega)
                have HC9 := Aside0.mk (show (stepF T j).clock = cl by rw [HCK.out, if_neg htl, HCL.out])
                clear HCK
                go_wp2_with (first
                  | (go_at_call 11; refine HSTP.out.mono ?_; rintro e w5 ⟨rfl, h5⟩; have HC5 := Aside0.mk h5; have y1 := h5.cells.1; have HNW := Aside0.mk h5.lnow; rw [HC9.out] at HNW; clear h5)
                  | (go_at_call 19; refine HNW.out.mono ?_; rintro e w6 ⟨rfl, rfl⟩))
                go_roundg k1
                case measure => omega
                case rel => exact ⟨j + 1, _, _, rfl, by first | rfl | (congr 1; omega) | (simp; done), hlt, HC9, HK1, HTN, HC5⟩
            · obtain rfl : j = p := by omega
              have HST := Aside0.mk (fun (W : World) (h : Cu 0 g2 w2 q pl3 pr3 T (TZ (m + 1) ticks i) W) => show Calls Try.prog 18 #[.pointer (some ⟨pl3, 0, none⟩)] W fun e w' => e = .returned (.int .i64 j) ∧ W = w' from by
                have := h.lsteps
                rw [HTI.out.count] at this
                exact this)
              have HRY := Aside0.mk (show Calls Try.prog 15 #[.pointer (some ⟨pl3, 0, none⟩)] wr fun e w' => ∃ A c, e = .returned (.slice A i c) ∧ Cu 0 g2 w2 q pl3 pr3 T (TZ (m + 1) ticks i) w' from by
                have h2 := HCU.out.lready2 (by rw [HTI.out.len]; omega) HTI.out.ready
                refine h2.mono ?_
                rintro e w' ⟨A, c, rfl, _, _, h3⟩
                rw [List.length_map, List.length_range]
                exact ⟨A, c, rfl, h3⟩)
              go_wp2_with (first
                | (go_at_call 18; refine (HST.out _ HCU.out).mono ?_; rintro e w5 ⟨rfl, rfl⟩)
                | (go_at_call 15; refine HRY.out.mono ?_; rintro e w6 ⟨A6, c6, rfl, h6⟩; have HC6 := Aside0.mk h6; clear h6))
              go_ret
              exact ⟨rfl, (O2.out.trans HC6.out.only E2.out).fin0⟩
  · have d1 : decide (Int.tmod count 64 < 1) = false := decide_eq_false h1
    go_upto_region 7 with (fail)
    clear d1
    obtain ⟨n, hn, hn1, hn63⟩ : ∃ n : Nat, Int.tmod count 64 = n ∧ 1 ≤ n ∧ n ≤ 63 := by
      have hb := tmod_lt count 64 (by omega)
      exact ⟨(Int.tmod count 64).toNat, by omega, by omega, by omega⟩
    rw [hn]
    clear hn
    have d2 : decide (Int.tmod rounds 50 < 0) = true := decide_eq_true h2
    go_upto_region 9 with (fail)
    clear d2
    go_cut [10] (fun v10 w' => ∃ m : Nat, v10 = .int .i64 m ∧ m ≤ 49 ∧ w1 = w')
    case first =>
      go_wp2
      go_meet
      case rel => exact ⟨0, rfl, by omega, rfl⟩
    case rest =>
      obtain ⟨m, rfl, hm49, rfl⟩ := hcut
      have hmk : ∀ W : World, (Instr.makeSlice 32 (.int .i64 ((m : Int) + 1)) (.int .i64 ((m : Int) + 1))).run Try.prog W = .ok (.slice (some ⟨W.heap.size, 0, none⟩) (m + 1) (m + 1)) (W.alloc (.cells (actCells (zActs (m + 1))).toArray 31)) := fun W => makeActs (m + 1) (by omega) W
      go_upto_region 11 with (fail)
      obtain ⟨g2, e2, o2, hc2, hd2⟩ := HC1.out.lit (zActs (m + 1)) (by rw [zActs_len]; omega) (below_alloc (Below.refl _ _) (.cells (actCells (zActs (m + 1))).toArray 31)) (Nat.le_refl _) (blk_new w1 _)
      rw [zActs_len] at hd2
      have E2 := Aside0.mk e2
      have O2 := Aside0.mk o2
      have D2 := Aside0.mk hd2
      have HC2 := Aside0.mk hc2
      rw [TZ_zero (m + 1)] at HC2
      have HADD := Aside0.mk (fun (i : Nat) (hi : i < 64) (W : World) (pl pr : Nat) (h : Cu 0 g2 (w1.alloc (.cells (actCells (zActs (m + 1))).toArray 31)) q pl pr (TZ (m + 1) ticks i) (TZ (m + 1) ticks i) W) => show Calls Try.prog 10 #[.pointer (some ⟨q, 0, none⟩), .slice (some ⟨w1.heap.size, 0, none⟩) (m + 1) (m + 1)] W fun e w' => e = .returned (.bool true) ∧ ∃ pl pr, Cu 0 g2 (w1.alloc (.cells (actCells (zActs (m + 1))).toArray 31)) q pl pr (TZ (m + 1) ticks (i + 1)) (TZ (m + 1) ticks (i + 1)) w' from by
        have h2 := h.add (acts := zActs (m + 1)) (c := m + 1) (by rw [zActs_len]; exact D2.out) (Nat.le_of_eq (zActs_len _)) (by rw [zActs_len]; omega) (by show (List.replicate i _).length ≤ 64; rw [List.length_replicate]; omega)
        rw [zActs_len, TZ_add _ _ _ hi] at h2
        exact h2)
      clear e2 o2 hc2 hd2 hmk h1 h2
      generalize w1.alloc (.cells (actCells (zActs (m + 1))).toArray 31) = w2 at O2 D2 HC2 HADD ⊢
      clear D2
      have HTI := Aside0.mk (TI.zero (n := n) (m := m) (ticks := ticks) (by omega) (by omega) hm49 HLEN.out)
      have hnz : ((n : Int) == 0) = false := by simp; omega
      go_wp2
      go_loopg [12] n (fun kq v12 w' => ∃ (i pl pr : Nat), v12 = .int .i64 i ∧ i ≤ n ∧ Aside0 (kq = n - i) ∧ Aside0 (Cu 0 g2 w2 q pl pr (TZ (m + 1) ticks i) (TZ (m + 1) ticks i) w'))
      case atStart => exact ⟨0, pl, pr, rfl, Nat.zero_le _, ⟨rfl⟩, HC2⟩
      case round =>
        obtain ⟨i, pl3, pr3, rfl, hi, HK, HCU⟩ := hrel
        by_cases hlt : i < n
        · obtain ⟨k1, rfl⟩ : ∃ k1, gk = k1 + 1 := ⟨gk - 1, by have := HK.out; omega⟩
          have HK1 := Aside0.mk (show k1 = n - (i + 1) by have := HK.out; omega)
          have HAD := Aside0.mk (HADD.out i (by omega) _ _ _ HCU.out)
          clear HK
          go_wp2_with (go_at_call 10; refine HAD.out.mono ?_; rintro e w5 ⟨rfl, pl5, pr5, h5⟩; have HC5 := Aside0.mk h5; clear h5)
          go_roundg k1
          case measure => omega
          case rel => exact ⟨i + 1, pl5, pr5, by first | rfl | (congr 1; omega) | (simp; done), hlt, HK1, HC5⟩
        · obtain rfl : i = n := by omega
          obtain ⟨p, hp⟩ : ∃ p, i * m = p := ⟨_, rfl⟩
          have hp2 : p ≤ 3087 := by rw [← hp]; exact Nat.le_trans (Nat.mul_le_mul hn63 hm49) (by decide)
          have hpz : (i : Int) * (m : Int) = (p : Int) := by rw [← hp]; rfl
          have HP := Aside0.mk hp
          clear hp HADD HK
          go_wp2
          go_loopg [13, 14] p (fun kq v13 v14 w' => ∃ (j : Nat) (T : LS) (cl : Int), v13 = .int .u64 cl ∧ v14 = .int .i64 j ∧ j ≤ p ∧ Aside0 (T.clock = cl) ∧ Aside0 (kq = p - j) ∧ Aside0 (TI i m ticks j T) ∧ Aside0 (Cu 0 g2 w2 q pl3 pr3 T (TZ (m + 1) ticks i) w'))
          case atStart => exact ⟨0, _, 0, rfl, rfl, Nat.zero_le _, ⟨rfl⟩, ⟨rfl⟩, HTI, HCU⟩
          case round =>
            clear HTI HCU
            obtain ⟨j, T, cl, rfl, rfl, hj, HCL, HK, HTI, HCU⟩ := hrel
            have y0 := HCU.out.cells.1
            by_cases hlt : j < p
            · obtain ⟨k1, rfl⟩ : ∃ k1, gk = k1 + 1 := ⟨gk - 1, by have := HK.out; omega⟩
              have HK1 := Aside0.mk (show k1 = p - (j + 1) by have := HK.out; omega)
              have hip : j < i * m := by rw [HP.out]; exact hlt
              have hstp := HCU.out.lstep HTI.out.good (by omega) (j : Int)
              rw [HTI.out.who (by omega), HTI.out.steps (by omega)] at hstp
              have HSTP := Aside0.mk hstp
              have HCK := Aside0.mk (HTI.out.clock (by omega) hip)
              have HTN := Aside0.mk (HTI.out.next (by omega) hip)
              have htm : Int.tmod (j : Int) (i : Int) = ((j % i : Nat) : Int) := rfl
              obtain ⟨x, hx⟩ : ∃ x, ((j % i : Nat) : Int) = x := ⟨_, rfl⟩
              rw [hx] at htm HSTP
              clear hx hstp HK hip
              by_cases htl : j < ticks.length
              · have dl : decide ((j : Int) < (ticks.length : Int)) = true := decide_eq_true (by omega)
                obtain ⟨ad, e1, hxx⟩ := Kd.at_int (Kd.C_below HC.out (O2.out.trans HCU.out.only E2.out).fin0) (j : Int) (Int.natCast_nonneg _) (by omega)
                rw [Int.toNat_natCast] at hxx
                cases e1
                obtain ⟨tk, htk⟩ : ∃ tk, rd ticks (j : Int) = tk := ⟨_, rfl⟩
                rw [htk] at hxx
                have HC9 := Aside0.mk (show (stepF T j).clock = IntKind.u64.wrap (cl + IntKind.u64.wrap tk) by rw [HCK.out, if_pos htl, HCL.out, ← htk]; simp [rd])
                clear htk HCK
                go_wp2_with (first
                  | (go_at_call 11; refine HSTP.out.mono ?_; rintro e w5 ⟨rfl, h5⟩; have HC5 := Aside0.mk h5; have y1 := h5.cells.1; have HNW := Aside0.mk h5.lnow; rw [HC9.out] at HNW; clear h5)
                  | (go_at_call 19; refine HNW.out.mono ?_; rintro e w6 ⟨rfl, rfl⟩))
                go_roundg k1
                case measure => omega
                case rel => exact ⟨j + 1, _, _, rfl, by first | rfl | (congr 1; omega) | (simp; done), hlt, HC9, HK1, HTN, HC5⟩
              · have dl : decide ((j : Int) < (ticks.length : Int)) = false := decide_eq_false (by omega)
                have HC9 := Aside0.mk (show (stepF T j).clock = cl by rw [HCK.out, if_neg htl, HCL.out])
                clear HCK
                go_wp2_with (first
                  | (go_at_call 11; refine HSTP.out.mono ?_; rintro e w5 ⟨rfl, h5⟩; have HC5 := Aside0.mk h5; have y1 := h5.cells.1; have HNW := Aside0.mk h5.lnow; rw [HC9.out] at HNW; clear h5)
                  | (go_at_call 19; refine HNW.out.mono ?_; rintro e w6 ⟨rfl, rfl⟩))
                go_roundg k1
                case measure => omega
                case rel => exact ⟨j + 1, _, _, rfl, by first | rfl | (congr 1; omega) | (simp; done), hlt, HC9, HK1, HTN, HC5⟩
            · obtain rfl : j = p := by omega
              have HST := Aside0.mk (fun (W : World) (h : Cu 0 g2 w2 q pl3 pr3 T (TZ (m + 1) ticks i) W) => show Calls Try.prog 18 #[.pointer (some ⟨pl3, 0, none⟩)] W fun e w' => e = .returned (.int .i64 j) ∧ W = w' from by
                have := h.lsteps
                rw [HTI.out.count] at this
                exact this)
              have HRY := Aside0.mk (show Calls Try.prog 15 #[.pointer (some ⟨pl3, 0, none⟩)] wr fun e w' => ∃ A c, e = .returned (.slice A i c) ∧ Cu 0 g2 w2 q pl3 pr3 T (TZ (m + 1) ticks i) w' from by
                have h2 := HCU.out.lready2 (by rw [HTI.out.len]; omega) HTI.out.ready
                refine h2.mono ?_
                rintro e w' ⟨A, c, rfl, _, _, h3⟩
                rw [List.length_map, List.length_range]
                exact ⟨A, c, rfl, h3⟩)
              go_wp2_with (first
                | (go_at_call 18; refine (HST.out _ HCU.out).mono ?_; rintro e w5 ⟨rfl, rfl⟩)
                | (go_at_call 15; refine HRY.out.mono ?_; rintro e w6 ⟨A6, c6, rfl, h6⟩; have HC6 := Aside0.mk h6; clear h6))
              go_ret
              exact ⟨rfl, (O2.out.trans HC6.out.only E2.out).fin0⟩
  · have d1 : decide (Int.tmod count 64 < 1) = false := decide_eq_false h1
    go_upto_region 7 with (fail)
    clear d1
    obtain ⟨n, hn, hn1, hn63⟩ : ∃ n : Nat, Int.tmod count 64 = n ∧ 1 ≤ n ∧ n ≤ 63 := by
      have hb := tmod_lt count 64 (by omega)
      exact ⟨(Int.tmod count 64).toNat, by omega, by omega, by omega⟩
    rw [hn]
    clear hn
    have d2 : decide (Int.tmod rounds 50 < 0) = false := decide_eq_false h2
    go_upto_region 10 with (fail)
    clear d2
    obtain ⟨m, hm, hm49⟩ : ∃ m : Nat, Int.tmod rounds 50 = m ∧ m ≤ 49 := by
      have hb := tmod_lt rounds 50 (by omega)
      exact ⟨(Int.tmod rounds 50).toNat, by omega, by omega⟩
    rw [hm]
    clear hm
    have hmk : ∀ W : World, (Instr.makeSlice 32 (.int .i64 ((m : Int) + 1)) (.int .i64 ((m : Int) + 1))).run Try.prog W = .ok (.slice (some ⟨W.heap.size, 0, none⟩) (m + 1) (m + 1)) (W.alloc (.cells (actCells (zActs (m + 1))).toArray 31)) := fun W => makeActs (m + 1) (by omega) W
    go_upto_region 11 with (fail)
    obtain ⟨g2, e2, o2, hc2, hd2⟩ := HC1.out.lit (zActs (m + 1)) (by rw [zActs_len]; omega) (below_alloc (Below.refl _ _) (.cells (actCells (zActs (m + 1))).toArray 31)) (Nat.le_refl _) (blk_new w1 _)
    rw [zActs_len] at hd2
    have E2 := Aside0.mk e2
    have O2 := Aside0.mk o2
    have D2 := Aside0.mk hd2
    have HC2 := Aside0.mk hc2
    rw [TZ_zero (m + 1)] at HC2
    have HADD := Aside0.mk (fun (i : Nat) (hi : i < 64) (W : World) (pl pr : Nat) (h : Cu 0 g2 (w1.alloc (.cells (actCells (zActs (m + 1))).toArray 31)) q pl pr (TZ (m + 1) ticks i) (TZ (m + 1) ticks i) W) => show Calls Try.prog 10 #[.pointer (some ⟨q, 0, none⟩), .slice (some ⟨w1.heap.size, 0, none⟩) (m + 1) (m + 1)] W fun e w' => e = .returned (.bool true) ∧ ∃ pl pr, Cu 0 g2 (w1.alloc (.cells (actCells (zActs (m + 1))).toArray 31)) q pl pr (TZ (m + 1) ticks (i + 1)) (TZ (m + 1) ticks (i + 1)) w' from by
      have h2 := h.add (acts := zActs (m + 1)) (c := m + 1) (by rw [zActs_len]; exact D2.out) (Nat.le_of_eq (zActs_len _)) (by rw [zActs_len]; omega) (by show (List.replicate i _).length ≤ 64; rw [List.length_replicate]; omega)
      rw [zActs_len, TZ_add _ _ _ hi] at h2
      exact h2)
    clear e2 o2 hc2 hd2 hmk h1 h2
    generalize w1.alloc (.cells (actCells (zActs (m + 1))).toArray 31) = w2 at O2 D2 HC2 HADD ⊢
    clear D2
    have HTI := Aside0.mk (TI.zero (n := n) (m := m) (ticks := ticks) (by omega) (by omega) hm49 HLEN.out)
    have hnz : ((n : Int) == 0) = false := by simp; omega
    go_wp2
    go_loopg [12] n (fun kq v12 w' => ∃ (i pl pr : Nat), v12 = .int .i64 i ∧ i ≤ n ∧ Aside0 (kq = n - i) ∧ Aside0 (Cu 0 g2 w2 q pl pr (TZ (m + 1) ticks i) (TZ (m + 1) ticks i) w'))
    case atStart => exact ⟨0, pl, pr, rfl, Nat.zero_le _, ⟨rfl⟩, HC2⟩
    case round =>
      obtain ⟨i, pl3, pr3, rfl, hi, HK, HCU⟩ := hrel
      by_cases hlt : i < n
      · obtain ⟨k1, rfl⟩ : ∃ k1, gk = k1 + 1 := ⟨gk - 1, by have := HK.out; omega⟩
        have HK1 := Aside0.mk (show k1 = n - (i + 1) by have := HK.out; omega)
        have HAD := Aside0.mk (HADD.out i (by omega) _ _ _ HCU.out)
        clear HK
        go_wp2_with (go_at_call 10; refine HAD.out.mono ?_; rintro e w5 ⟨rfl, pl5, pr5, h5⟩; have HC5 := Aside0.mk h5; clear h5)
        go_roundg k1
        case measure => omega
        case rel => exact ⟨i + 1, pl5, pr5, by first | rfl | (congr 1; omega) | (simp; done), hlt, HK1, HC5⟩
      · obtain rfl : i = n := by omega
        obtain ⟨p, hp⟩ : ∃ p, i * m = p := ⟨_, rfl⟩
        have hp2 : p ≤ 3087 := by rw [← hp]; exact Nat.le_trans (Nat.mul_le_mul hn63 hm49) (by decide)
        have hpz : (i : Int) * (m : Int) = (p : Int) := by rw [← hp]; rfl
        have HP := Aside0.mk hp
        clear hp HADD HK
        go_wp2
        go_loopg [13, 14] p (fun kq v13 v14 w' => ∃ (j : Nat) (T : LS) (cl : Int), v13 = .int .u64 cl ∧ v14 = .int .i64 j ∧ j ≤ p ∧ Aside0 (T.clock = cl) ∧ Aside0 (kq = p - j) ∧ Aside0 (TI i m ticks j T) ∧ Aside0 (Cu 0 g2 w2 q pl3 pr3 T (TZ (m + 1) ticks i) w'))
        case atStart => exact ⟨0, _, 0, rfl, rfl, Nat.zero_le _, ⟨rfl⟩, ⟨rfl⟩, HTI, HCU⟩
        case round =>
          clear HTI HCU
          obtain ⟨j, T, cl, rfl, rfl, hj, HCL, HK, HTI, HCU⟩ := hrel
          have y0 := HCU.out.cells.1
          by_cases hlt : j < p
          · obtain ⟨k1, rfl⟩ : ∃ k1, gk = k1 + 1 := ⟨gk - 1, by have := HK.out; omega⟩
            have HK1 := Aside0.mk (show k1 = p - (j + 1) by have := HK.out; omega)
            have hip : j < i * m := by rw [HP.out]; exact hlt
            have hstp := HCU.out.lstep HTI.out.good (by omega) (j : Int)
            rw [HTI.out.who (by omega), HTI.out.steps (by omega)] at hstp
            have HSTP := Aside0.mk hstp
            have HCK := Aside0.mk (HTI.out.clock (by omega) hip)
            have HTN := Aside0.mk (HTI.out.next (by omega) hip)
            have htm : Int.tmod (j : Int) (i : Int) = ((j % i : Nat) : Int) := rfl
            obtain ⟨x, hx⟩ : ∃ x, ((j % i : Nat) : Int) = x := ⟨_, rfl⟩
            rw [hx] at htm HSTP
            clear hx hstp HK hip
            by_cases htl : j < ticks.length
            · have dl : decide ((j : Int) < (ticks.length : Int)) = true := decide_eq_true (by omega)
              obtain ⟨ad, e1, hxx⟩ := Kd.at_int (Kd.C_below HC.out (O2.out.trans HCU.out.only E2.out).fin0) (j : Int) (Int.natCast_nonneg _) (by omega)
              rw [Int.toNat_natCast] at hxx
              cases e1
              obtain ⟨tk, htk⟩ : ∃ tk, rd ticks (j : Int) = tk := ⟨_, rfl⟩
              rw [htk] at hxx
              have HC9 := Aside0.mk (show (stepF T j).clock = IntKind.u64.wrap (cl + IntKind.u64.wrap tk) by rw [HCK.out, if_pos htl, HCL.out, ← htk]; simp [rd])
              clear htk HCK
              go_wp2_with (first
                | (go_at_call 11; refine HSTP.out.mono ?_; rintro e w5 ⟨rfl, h5⟩; have HC5 := Aside0.mk h5; have y1 := h5.cells.1; have HNW := Aside0.mk h5.lnow; rw [HC9.out] at HNW; clear h5)
                | (go_at_call 19; refine HNW.out.mono ?_; rintro e w6 ⟨rfl, rfl⟩))
              go_roundg k1
              case measure => omega
              case rel => exact ⟨j + 1, _, _, rfl, by first | rfl | (congr 1; omega) | (simp; done), hlt, HC9, HK1, HTN, HC5⟩
            · have dl : decide ((j : Int) < (ticks.length : Int)) = false := decide_eq_false (by omega)
              have HC9 := Aside0.mk (show (stepF T j).clock = cl by rw [HCK.out, if_neg htl, HCL.out])
              clear HCK
              go_wp2_with (first
                | (go_at_call 11; refine HSTP.out.mono ?_; rintro e w5 ⟨rfl, h5⟩; have HC5 := Aside0.mk h5; have y1 := h5.cells.1; have HNW := Aside0.mk h5.lnow; rw [HC9.out] at HNW; clear h5)
                | (go_at_call 19; refine HNW.out.mono ?_; rintro e w6 ⟨rfl, rfl⟩))
              go_roundg k1
              case measure => omega
              case rel => exact ⟨j + 1, _, _, rfl, by first | rfl | (congr 1; omega) | (simp; done), hlt, HC9, HK1, HTN, HC5⟩
          · obtain rfl : j = p := by omega
            have HST := Aside0.mk (fun (W : World) (h : Cu 0 g2 w2 q pl3 pr3 T (TZ (m + 1) ticks i) W) => show Calls Try.prog 18 #[.pointer (some ⟨pl3, 0, none⟩)] W fun e w' => e = .returned (.int .i64 j) ∧ W = w' from by
              have := h.lsteps
              rw [HTI.out.count] at this
              exact this)
            have HRY := Aside0.mk (show Calls Try.prog 15 #[.pointer (some ⟨pl3, 0, none⟩)] wr fun e w' => ∃ A c, e = .returned (.slice A i c) ∧ Cu 0 g2 w2 q pl3 pr3 T (TZ (m + 1) ticks i) w' from by
              have h2 := HCU.out.lready2 (by rw [HTI.out.len]; omega) HTI.out.ready
              refine h2.mono ?_
              rintro e w' ⟨A, c, rfl, _, _, h3⟩
              rw [List.length_map, List.length_range]
              exact ⟨A, c, rfl, h3⟩)
            go_wp2_with (first
              | (go_at_call 18; refine (HST.out _ HCU.out).mono ?_; rintro e w5 ⟨rfl, rfl⟩)
              | (go_at_call 15; refine HRY.out.mono ?_; rintro e w6 ⟨A6, c6, rfl, h6⟩; have HC6 := Aside0.mk h6; clear h6))
            go_ret
            exact ⟨rfl, (O2.out.trans HC6.out.only E2.out).fin0⟩
theorem schedTurns_any (count rounds : Int) (A : Option Addr) (c : Nat) (ticks : List Int) (w : World) (hC : Kd.C (Kd.int .i64) w A ticks.length ticks) (hc : ticks.length ≤ c) :
    Calls Try.prog 5 #[.slice A ticks.length c, .int .i64 count, .int .i64 rounds] w fun e w' => e = .returned (.bool true) ∧ Below w.heap.size w w' := by
  by_cases hk : checkF [] ticks [] = 0
  · refine schedTurns_calls count rounds A c ticks w hC hc hk ?_
    unfold checkF at hk
    by_cases hh : 65536 < ticks.length
    · rw [if_pos (.inr (.inl hh))] at hk; exact absurd hk (by decide)
    · omega
  · exact schedTurnsNot_calls count rounds A c ticks w hC hc hk
end Go.Proofs.Ytompgphlinjglaa.P
