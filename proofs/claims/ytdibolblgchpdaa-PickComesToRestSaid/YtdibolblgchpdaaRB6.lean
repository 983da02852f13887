/- PickComesToRest: its walk. -/
import Derived.Test.YtdibolblgchpdaaRB5
import Derived.Test.YtdibolblgchpdaaRH12
namespace Go.Proofs.Ytdibolblgchpdaa.P
open Go.RowKit Go.Proofs.YtdibolblgchpdaaW.PrintWords Go.Proofs.YtdibolblgchpdaaW.PrintLast Go.Proofs.YtdibolblgchpdaaW.PrintMore
attribute [local go_sem] Oper.semAt_some
set_option linter.unusedVariables false
set_option linter.unusedSimpArgs false
/-- What stands while jobs are done: the version's box, the options' box. -/
structure RsSt (w : World) (b3 b4 : Nat) (O : Array Value) (A : Option Addr) (c : Nat) (ls : List (List S44)) (W : World) : Prop where
  below : Below w.heap.size w W
  h3 : W.heap[b3]? = some (.cells #[.slice A ls.length c] 24 (0, 0))
  h4 : W.heap[b4]? = some (.cells O 28 (0, 0))
  rows : Kd.F (Kd.slice 44 k44) W (fun b => b ≠ b3) A ls.length ls
  cap : ls.length ≤ c
  n3 : w.heap.size ≤ b3
  n34 : b4 ≠ b3
section
variable {w W W1 : World} {b3 b4 : Nat} {O : Array Value} {A A1 : Option Addr} {c c1 : Nat} {ls ls1 : List (List S44)}
theorem RsSt.next (h : RsSt w b3 b4 O A c ls W) (hb : Below W.heap.size W W1) : RsSt w b3 b4 O A c ls W1 :=
  ⟨below_step h.below hb, blk_below h.h3 hb, blk_below h.h4 hb, Kd.F_below h.rows hb, h.cap, h.n3, h.n34⟩
theorem RsSt.name (h : RsSt w b3 b4 O A c ls W) : ∃ X, X = W ∧ RsSt w b3 b4 O A c ls X := ⟨W, rfl, h⟩
theorem RsSt.C (h : RsSt w b3 b4 O A c ls W) : Kd.C (Kd.slice 44 k44) W A ls.length ls := Kd.F_now h.rows
theorem RsSt.put (h : RsSt w b3 b4 O A c ls W) {N : Nat} (hN : b3 < N) (hF : Kd.F (Kd.slice 44 k44) W (fun b => N ≤ b) A1 ls1.length ls1) (hc : ls1.length ≤ c1) :
    RsSt w b3 b4 O A1 c1 ls1 (W.setCell ⟨b3, 0, none⟩ (.slice A1 ls1.length c1)) :=
  ⟨below_set (j := 0) h.below h.n3, blk_put h.h3 0 _ rfl, blk_far h.h4 (p := ⟨b3, 0, none⟩) h.n34 _, Kd.F_mono (Kd.F_far hF (p := ⟨b3, 0, none⟩) (fun k hk => by show k ≠ b3; omega) _) (fun k hk => by show k ≠ b3; omega), hc, h.n3, h.n34⟩
end
theorem rs_start (w : World) (A : Option Addr) (c : Nat) (ls : List (List S44)) (O : Array Value) (hC : Kd.C (Kd.slice 44 k44) w A ls.length ls) (hc : ls.length ≤ c) :
    RsSt w w.heap.size (w.heap.size + 1) O A c ls ((w.alloc (.cells #[.slice A ls.length c] 24)).alloc (.cells O 28)) := by
  have h1 := blk_new w (.cells #[.slice A ls.length c] 24)
  have h2 := blk_new (w.alloc (.cells #[.slice A ls.length c] 24)) (.cells O 28)
  rw [World.size_alloc] at h2
  have hF : Kd.F (Kd.slice 44 k44) w (fun k => k < w.heap.size) A ls.length ls := Kd.C_F (Kd.heap_slice 44 k44_heap) hC
  exact ⟨below_alloc (below_alloc (Below.refl _ _) _) _, blk_alloc h1 _, h2, Kd.F_mono (Kd.F_alloc (Kd.F_alloc hF _) _) (fun k hk => by show k ≠ w.heap.size; omega), hc, Nat.le_refl _, by omega⟩
theorem okF_b {ls : List (List S44)} (h : okF ls = true) : ∀ l ∈ ls, ∀ t ∈ l, 1 ≤ t.f1 ∧ t.f1 ≤ 1048576 ∧ 1 ≤ t.f2 ∧ t.f2 ≤ 65536 := fun l hl t ht => by
  obtain ⟨_, _, h3, h4, h5, h6, _⟩ := fileR_facts (okF_file h l hl t ht)
  exact ⟨h3, h4, h5, h6⟩
set_option maxHeartbeats 16000000 in
set_option maxRecDepth 100000 in
theorem rest_calls (A : Option Addr) (c : Nat) (ls : List (List S44)) (o0 o1 o2 o3 o4 o5 o6 fewer : Int) (w : World) (hC : Kd.C (Kd.slice 44 k44) w A ls.length ls) (hc : ls.length ≤ c) (hls : ls.length ≤ 5864062014805) (hl : ∀ l ∈ ls, l.length ≤ 2513169434916) (hfw : fewer ≤ 9223372036854775807) :
    Calls Try.prog 4 #[.agg #[.slice A ls.length c], .agg #[.int .i64 o0, .int .i64 o1, .int .i64 o2, .int .i64 o3, .int .i64 o4, .int .i64 o5, .int .i64 o6], .int .i64 fewer] w fun e w' => e = .returned (.bool true) ∧ Below w.heap.size w w' := by
  have HS := Aside0.mk (rs_start w A c ls #[.int .i64 o0, .int .i64 o1, .int .i64 o2, .int .i64 o3, .int .i64 o4, .int .i64 o5, .int .i64 o6] hC hc)
  have HR := Aside0.mk (rright_val ls hl)
  have HM := Aside0.mk (opt_val o0 o1 o2 o3 o4 o5 o6)
  clear hC hc hl
  go_enter Try.func4, Try.ntmps4
  go_upto_region 1 with (fail)
  generalize (w.alloc (.cells #[.slice A ls.length c] 24)).alloc (.cells #[.int .i64 o0, .int .i64 o1, .int .i64 o2, .int .i64 o3, .int .i64 o4, .int .i64 o5, .int .i64 o6] 28) = W0 at HS ⊢
  obtain ⟨b4, hb4⟩ : ∃ b, w.heap.size + 1 = b := ⟨_, rfl⟩
  rw [hb4] at HS ⊢
  obtain ⟨O, hO⟩ : ∃ O : Array Value, #[.int .i64 o0, .int .i64 o1, .int .i64 o2, .int .i64 o3, .int .i64 o4, .int .i64 o5, .int .i64 o6] = O := ⟨_, rfl⟩
  rw [hO] at HS
  have HO := Aside0.mk (fun (W : World) (h : W.heap[b4]? = some (.cells O 28 (0, 0))) => show W.cell? ⟨b4, 0, none⟩ = some (.int .i64 o0) ∧ W.cell? ⟨b4, 1, none⟩ = some (.int .i64 o1) ∧ W.cell? ⟨b4, 2, none⟩ = some (.int .i64 o2) ∧ W.cell? ⟨b4, 3, none⟩ = some (.int .i64 o3) ∧ W.cell? ⟨b4, 4, none⟩ = some (.int .i64 o4) ∧ W.cell? ⟨b4, 5, none⟩ = some (.int .i64 o5) ∧ W.cell? ⟨b4, 6, none⟩ = some (.int .i64 o6) by
    rw [← hO] at h
    exact ⟨(blkc h 0 rfl).1, (blkc h 1 rfl).1, (blkc h 2 rfl).1, (blkc h 3 rfl).1, (blkc h 4 rfl).1, (blkc h 5 rfl).1, (blkc h 6 rfl).1⟩)
  have x3 := (blkc HS.out.h3 0 rfl).1
  clear hO hb4
  by_cases hr : okF ls = true
  rotate_left
  · rw [Bool.eq_false_iff.mpr hr] at HR
    clear hr
    go_wp2_with (first
      | (go_at_call 7; refine (awake_calls w2).mono ?_; rintro e w3 ⟨rfl, hb⟩; have HS3 := Aside0.mk (HS2.out.next hb); clear hb)
      | (go_at_call 7; refine (awake_calls _).mono ?_; rintro e w1 ⟨rfl, hb⟩; have HS1 := Aside0.mk (HS.out.next hb); have y3 := (blkc HS1.out.h3 0 rfl).1; clear hb x3)
      | (go_at_call 17; refine (atriumref12_Right.calls A c ls false _ HS1.out.C HS1.out.cap HR.out).mono ?_; rintro e w2 ⟨rfl, hb⟩; have HS2 := Aside0.mk (HS1.out.next hb); clear hb y3))
    go_ret
    exact ⟨rfl, HS3.out.below⟩
  by_cases hm : mayB o0 o1 o2 o3 o4 o5 o6 = true
  rotate_left
  · rw [hr] at HR
    rw [Bool.eq_false_iff.mpr hm] at HM
    clear hr hm
    go_wp2_with (first
      | (go_at_call 7; refine (awake_calls w3).mono ?_; rintro e w4 ⟨rfl, hb⟩; have HS4 := Aside0.mk (HS3.out.next hb); clear hb)
      | (go_at_call 7; refine (awake_calls _).mono ?_; rintro e w1 ⟨rfl, hb⟩; have HS1 := Aside0.mk (HS.out.next hb); have y3 := (blkc HS1.out.h3 0 rfl).1; clear hb x3)
      | (go_at_call 17; refine (atriumref12_Right.calls A c ls true _ HS1.out.C HS1.out.cap HR.out).mono ?_; rintro e w2 ⟨rfl, hb⟩; have HS2 := Aside0.mk (HS1.out.next hb); obtain ⟨a0, a1, a2, a3, a4, a5, a6⟩ := HO.out w2 HS2.out.h4; clear hb y3)
      | (go_at_call 18; refine (atriumref12_Options.calls o0 o1 o2 o3 o4 o5 o6 false _ HM.out).mono ?_; rintro e w3 ⟨rfl, hb⟩; have HS3 := Aside0.mk (HS2.out.next hb); clear hb a0 a1 a2 a3 a4 a5 a6))
    go_ret
    exact ⟨rfl, HS4.out.below⟩
  · rw [hr] at HR
    rw [hm] at HM
    have HOK := Aside0.mk hr
    have HMB := Aside0.mk hm
    clear hr hm
    go_upto_region 3 with (first
      | (go_at_call 7; refine (awake_calls _).mono ?_; rintro e w1 ⟨rfl, hb⟩; have HS1 := Aside0.mk (HS.out.next hb); have y3 := (blkc HS1.out.h3 0 rfl).1; clear hb x3)
      | (go_at_call 17; refine (atriumref12_Right.calls A c ls true _ HS1.out.C HS1.out.cap HR.out).mono ?_; rintro e w2 ⟨rfl, hb⟩; have HS2 := Aside0.mk (HS1.out.next hb); obtain ⟨a0, a1, a2, a3, a4, a5, a6⟩ := HO.out w2 HS2.out.h4; clear hb y3)
      | (go_at_call 18; refine (atriumref12_Options.calls o0 o1 o2 o3 o4 o5 o6 true _ HM.out).mono ?_; rintro e w3 ⟨rfl, hb⟩; have HS3 := Aside0.mk (HS2.out.next hb); clear hb a0 a1 a2 a3 a4 a5 a6))
    have y3 := (blkc HS3.out.h3 0 rfl).1
    have hlm : ls.length ≤ 9223372036854775807 := by omega
    have HCW := Aside0.mk HS.out.C
    have HW03 := Aside0.mk (show Below w.heap.size w w3 from HS3.out.below)
    go_wp2
    go_loopg [7, 35] ls.length (fun kq v7 v35 w' => ∃ (i : Nat) (g : Int), v7 = .int .i64 g ∧ v35 = .int .i64 i ∧ i ≤ ls.length ∧ 0 ≤ g ∧ g ≤ 2147483647 ∧ Aside0 (kq = ls.length - i) ∧ Aside0 (∀ k, k < i → ∀ t ∈ ls.getD k [], t.f0 ≤ g) ∧ Aside0 (Below w3.heap.size w3 w'))
    case atStart => exact ⟨0, 0, rfl, rfl, Nat.zero_le _, Int.le_refl _, by omega, ⟨rfl⟩, ⟨fun k hk => absurd hk (Nat.not_lt_zero _)⟩, ⟨Below.refl _ _⟩⟩
    case round =>
      clear y3
      obtain ⟨i, g, rfl, rfl, hi, hg0, hg1, HK, HG, HB⟩ := hrel
      by_cases hlt : i < ls.length
      · obtain ⟨k1, rfl⟩ : ∃ k1, gk = k1 + 1 := ⟨gk - 1, by have := HK.out; omega⟩
        have HK1 := Aside0.mk (show k1 = ls.length - (i + 1) by have := HK.out; omega)
        obtain ⟨ad, A1, n1, ea, x0, hl1, hi1⟩ := at_L3 HS3.out.C (i : Int) (Int.natCast_nonneg _) (by omega)
        subst ea
        rw [Int.toNat_natCast] at x0
        have hLg : rd_L3 ls (i : Int) = ls.getD i [] := by simp only [rd_L3, Int.toNat_natCast]
        obtain ⟨l, hl⟩ : ∃ l, ls.getD i [] = l := ⟨_, rfl⟩
        rw [hLg, hl] at x0 hl1 hi1
        have HLE := Aside0.mk hl
        have hlm1 : l.length ≤ 9223372036854775807 := hi1.2.1
        have HI1 := Aside0.mk hi1
        have y0 := pw_cell_below HB.out x0
        clear hLg hl HK hi1 x0
        go_wp2
        go_loopg [7, 41] l.length (fun kq v7 v41 w' => ∃ (j : Nat) (g : Int), v7 = .int .i64 g ∧ v41 = .int .i64 j ∧ j ≤ l.length ∧ 0 ≤ g ∧ g ≤ 2147483647 ∧ Aside0 (kq = l.length - j) ∧ Aside0 ((∀ k, k < i → ∀ t ∈ ls.getD k [], t.f0 ≤ g) ∧ ∀ t ∈ l.take j, t.f0 ≤ g) ∧ Aside0 (Below w3.heap.size w3 w'))
        case atStart => exact ⟨0, g, rfl, rfl, Nat.zero_le _, hg0, hg1, ⟨rfl⟩, ⟨HG.out, fun t ht => by simp at ht⟩, HB⟩
        case round =>
          clear HG HB y0 hg0 hg1
          obtain ⟨j, g, rfl, rfl, hj, hg0, hg1, HKj, HG, HB⟩ := hrel
          by_cases hjl : j < l.length
          · obtain ⟨k2, rfl⟩ : ∃ k2, gk = k2 + 1 := ⟨gk - 1, by have := HKj.out; omega⟩
            have HK2 := Aside0.mk (show k2 = l.length - (j + 1) by have := HKj.out; omega)
            obtain ⟨ad2, ea2, y0, y1, y2, y3, y4⟩ := at_T44 (Kd.C_below HI1.out HB.out) (j : Int) (Int.natCast_nonneg _) (by omega)
            subst ea2
            rw [Int.toNat_natCast] at y0 y1 y2 y3 y4
            have htg := rd44_getElem l j hjl
            obtain ⟨t, ht⟩ : ∃ t, rd_T44 l (j : Int) = t := ⟨_, rfl⟩
            rw [ht] at y0 y1 y2 y3 y4 htg
            have HTK := Aside0.mk (show l.take (j + 1) = l.take j ++ [t] by rw [List.take_succ_eq_append_getElem hjl, ← htg])
            have htf := (fileR_facts (okF_file HOK.out l (by rw [← HLE.out, List.getD_eq_getElem?_getD, List.getElem?_eq_getElem hlt]; exact List.getElem_mem hlt) t (by rw [htg]; exact List.getElem_mem hjl)))
            have ht1 := htf.1
            have ht2 := htf.2.1
            clear ht HKj htg htf
            by_cases hgt : g < t.f0
            · go_wp2
              go_roundg k2
              case measure => omega
              case rel => exact ⟨j + 1, t.f0, rfl, by first | rfl | (congr 1; omega) | (simp; done), hjl, by omega, by omega, HK2, ⟨fun k hk u hu => by have := HG.out.1 k hk u hu; omega, fun u hu => by
                rw [HTK.out] at hu
                rcases List.mem_append.1 hu with h | h
                · have := HG.out.2 u h; omega
                · rw [List.mem_singleton.1 h]; omega⟩, ⟨below_alloc HB.out _⟩⟩
            · go_wp2
              go_roundg k2
              case measure => omega
              case rel => exact ⟨j + 1, g, rfl, by first | rfl | (congr 1; omega) | (simp; done), hjl, hg0, hg1, HK2, ⟨HG.out.1, fun u hu => by
                rw [HTK.out] at hu
                rcases List.mem_append.1 hu with h | h
                · exact HG.out.2 u h
                · rw [List.mem_singleton.1 h]; omega⟩, ⟨below_alloc HB.out _⟩⟩
          · obtain rfl : j = l.length := by omega
            have HG2 := Aside0.mk (show ∀ k, k < i + 1 → ∀ t ∈ ls.getD k [], t.f0 ≤ g from fun k hk u hu => by
              by_cases hki : k < i
              · exact HG.out.1 k hki u hu
              · obtain rfl : k = i := by omega
                rw [HLE.out] at hu
                have h := HG.out.2 u
                rw [List.take_length] at h
                exact h hu)
            go_wp2
            go_roundg k1
            case measure => omega
            case rel => exact ⟨i + 1, g, rfl, by first | rfl | (congr 1; omega) | (simp; done), hlt, hg0, hg1, HK1, HG2, HB⟩
      · obtain rfl : i = ls.length := by omega
        have HGA := Aside0.mk (show ∀ l ∈ ls, ∀ t ∈ l, t.f0 ≤ g from fun l hl t ht => by
          obtain ⟨k, hk, rfl⟩ := List.mem_iff_getElem.1 hl
          exact HG.out k hk t (by rw [List.getD_eq_getElem?_getD, List.getElem?_eq_getElem hk]; exact ht))
        obtain ⟨wz, rfl, hwz⟩ := (HS3.out.next HB.out).name
        have HSZ := Aside0.mk hwz
        clear HG HB HK hwz
        by_cases hgr : 1073741824 < g
        · go_wp2
          go_ret
          exact ⟨rfl, HSZ.out.below⟩
        · go_upto_if 56 with (fail)
          go_cut [2] (fun v2 wc => ∃ fe : Int, v2 = .int .i64 fe ∧ 0 ≤ fe ∧ fe ≤ 9223372036854775807 ∧ wz = wc)
          case first =>
            by_cases hfe : fewer < 0
            · go_wp2
              go_meet
              case rel => exact ⟨0, rfl, by omega, by omega, rfl⟩
            · go_wp2
              go_meet
              case rel => exact ⟨fewer, rfl, by omega, hfw, rfl⟩
          case rest =>
            obtain ⟨fe, rfl, hf0, hf1, rfl⟩ := hcut
            obtain ⟨k, hk⟩ := (pwork_ev ls (fun l hl => Nat.le_trans (flat_mem_le ls l hl) (Nat.le_trans (okF_facts HOK.out).2.2 (by decide)))).rounds
            have HWK := Aside0.mk hk
            have z3 := (blkc HSZ.out.h3 0 rfl).1
            clear hk
            go_upto_region 19 with (go_at_call 14; refine (pick_Work.calls k A c ls _ _ HSZ.out.C HSZ.out.cap HWK.out).mono ?_; rintro e w5 ⟨rfl, hb⟩; have HS5 := Aside0.mk (HSZ.out.next hb); clear hb z3)
            have HST := Aside0.mk (show okF ls = true ∧ workF ls = workF ls ∧ ∀ l ∈ ls, ∀ t ∈ l, t.f0 ≤ g + (1 : Nat) - 1 from ⟨HOK.out, rfl, fun l hl t ht => by have := HGA.out l hl t ht; omega⟩)
            clear HS HS1 HS2 HS3 HSZ HCW HW03 HGA HWK HR HM HOK
            go_wp2
            go_loopg [12, 13] 19999 (fun kq v12 v13 w' => ∃ (i : Nat) (wk : Int) (A' : Option Addr) (c' : Nat) (L : List (List S44)), v12 = .int .i64 wk ∧ v13 = .int .i64 i ∧ 1 ≤ i ∧ i ≤ 20000 ∧ Aside0 (kq = 20000 - i) ∧ Aside0 (okF L = true ∧ wk = workF L ∧ ∀ l ∈ L, ∀ t ∈ l, t.f0 ≤ g + i - 1) ∧ Aside0 (RsSt w w.heap.size b4 O A' c' L w'))
            case atStart => exact ⟨1, _, A, c, ls, rfl, rfl, Nat.le_refl _, by omega, ⟨rfl⟩, ⟨HST.out.1, rfl, HST.out.2.2⟩, HS5⟩
            case round =>
              clear HST HS5
              obtain ⟨i, wk, A', c', L, rfl, rfl, hi1, hi2, HK, HQ, HS⟩ := hrel
              by_cases hlt : i < 20000
              · obtain ⟨k1, rfl⟩ : ∃ k1, gk = k1 + 1 := ⟨gk - 1, by have := HK.out; omega⟩
                have HK1 := Aside0.mk (show k1 = 20000 - (i + 1) by have := HK.out; omega)
                obtain ⟨wx, rfl, hwx⟩ := HS.out.name
                have HX := Aside0.mk hwx
                have x3 := (blkc hwx.h3 0 rfl).1
                obtain ⟨a0, a1, a2, a3, a4, a5, a6⟩ := HO.out wx hwx.h4
                have hp := pnext A' c' L o0 o1 o2 o3 o4 o5 o6 wx hwx.C hwx.cap
                clear HS HK hwx
                cases hf : fullV (condF L o4 o5 o6) with
                | none =>
                  have hN : nextF L o0 o1 o2 o3 o4 o5 o6 = (z33, false) := by unfold nextF; rw [if_pos ⟨HMB.out, HQ.out.1⟩, hf]
                  rw [hN] at hp
                  have HP := Aside0.mk hp
                  obtain ⟨k, hk⟩ := (prests_ev L o0 o1 o2 o3 o4 o5 o6).rounds
                  have hre : restsF L o0 o1 o2 o3 o4 o5 o6 = true := by unfold restsF; rw [HMB.out, HQ.out.1, hf]; rfl
                  rw [hre] at hk
                  have HRE := Aside0.mk hk
                  clear hp hN hk hre hf
                  go_upto_region 23 with (go_at_call 9; refine HP.out.mono ?_; rintro e w6 ⟨v6, rfl, hR, hb⟩; obtain ⟨A7, c7, rfl⟩ := Kd.R_slice hR; have HX6 := Aside0.mk (HX.out.next hb); clear hR hb x3 a0 a1 a2 a3 a4 a5 a6)
                  have hx7 := HX6.out.next (below_alloc (Below.refl _ _) (.cells #[.int .i64 z33.f0, .slice A7 z33.f1.length c7, .bool z33.f2] 33))
                  have x3 := (blkc hx7.h3 0 rfl).1
                  obtain ⟨a0, a1, a2, a3, a4, a5, a6⟩ := HO.out _ hx7.h4
                  have HX7 := Aside0.mk hx7
                  clear hx7
                  go_wp2_with (go_at_call 12; refine (pick_Rests.calls k A' c' L o0 o1 o2 o3 o4 o5 o6 true _ HX7.out.C HX7.out.cap HRE.out).mono ?_; rintro e w8 ⟨rfl, hb⟩; have HX8 := Aside0.mk (HX7.out.next hb); clear hb)
                  go_ret
                  exact ⟨rfl, HX8.out.below⟩
                | some n =>
                  have hN : nextF L o0 o1 o2 o3 o4 o5 o6 = (jobF L n, true) := by unfold nextF; rw [if_pos ⟨HMB.out, HQ.out.1⟩, hf]
                  rw [hN] at hp
                  have hn5 := (fullV_some hf).1
                  have hil : (jobF L n).f1.length ≤ 4096 := by have := nextF_len L o0 o1 o2 o3 o4 o5 o6; rw [hN] at this; exact this
                  have HNO := Aside0.mk (next_ok (number := g + i) (fewer := fe) HQ.out.1 HMB.out hf HQ.out.2.2 (by omega) (by omega) hf0)
                  have hj0 : (jobF L n).f0 = (n : Int) := rfl
                  obtain ⟨ins, hins⟩ : ∃ x, (jobF L n).f1 = x := ⟨_, rfl⟩
                  obtain ⟨bt, hbt⟩ : ∃ x, (jobF L n).f2 = x := ⟨_, rfl⟩
                  dsimp only at hp
                  rw [hj0, hins, hbt] at hp
                  rw [hins] at hil HNO
                  have HP := Aside0.mk hp
                  clear hp hN hf hj0 hins hbt
                  go_upto_region 23 with (go_at_call 9; refine HP.out.mono ?_; rintro e w6 ⟨v6, rfl, hR, hb⟩; obtain ⟨A7, c7, rfl⟩ := Kd.R_slice hR; have HR6 := Aside0.mk (Kd.R_reads' hR).2.2; have HX6 := Aside0.mk (HX.out.next hb); clear hR hb x3 a0 a1 a2 a3 a4 a5 a6)
                  have hx7 := HX6.out.next (below_alloc (Below.refl _ _) (.cells #[.int .i64 n, .slice A7 ins.length c7, .bool bt] 33))
                  have hj7 := blk_new w6 (.cells #[.int .i64 n, .slice A7 ins.length c7, .bool bt] 33)
                  have HI7 := Aside0.mk (Kd.C_below HR6.out (below_alloc (Below.refl _ _) (.cells #[.int .i64 n, .slice A7 ins.length c7, .bool bt] 33)))
                  obtain ⟨bj, hbj⟩ : ∃ b, w6.heap.size = b := ⟨_, rfl⟩
                  rw [hbj] at hj7 ⊢
                  have HX7 := Aside0.mk hx7
                  have HJ7 := Aside0.mk hj7
                  clear hbj hx7 hj7 HX6 HR6 HP
                  generalize w6.alloc (.cells #[.int .i64 n, .slice A7 ins.length c7, .bool bt] 33) = W7 at HX7 HJ7 HI7 ⊢
                  have x3 := (blkc HX7.out.h3 0 rfl).1
                  have j0 := (blkc HJ7.out 0 rfl).1
                  have j1 := (blkc HJ7.out 1 rfl).1
                  have j2 := (blkc HJ7.out 2 rfl).1
                  have HBH := Aside0.mk (behind_calls A' c' L n A7 c7 ins bt (g + i) fe W7 HX7.out.C HI7.out (okF_len HQ.out.1) (okF_facts HQ.out.1).2.2 (okF_b HQ.out.1) hil hn5 hf0 hf1 HNO.out.1)
                  obtain ⟨NV, hNV⟩ : ∃ x, nextV L ins n (g + i) fe = x := ⟨_, rfl⟩
                  rw [hNV] at HBH HNO
                  have HRV := Aside0.mk (rright_val NV (fun l hl => Nat.le_trans (flat_mem_le NV l hl) (Nat.le_trans (okF_facts HNO.out.2.1).2.2 (by decide))))
                  rw [HNO.out.2.1] at HRV
                  obtain ⟨k, hk⟩ := (pwork_ev NV (fun l hl => Nat.le_trans (flat_mem_le NV l hl) (Nat.le_trans (okF_facts HNO.out.2.1).2.2 (by decide)))).rounds
                  have hwl := HNO.out.2.2.1
                  rw [← HQ.out.2.1] at hwl
                  obtain ⟨nw, hnw⟩ : ∃ x, workF NV = x := ⟨_, rfl⟩
                  rw [hnw] at hk hwl
                  have HWK := Aside0.mk hk
                  have HNW := Aside0.mk hnw
                  have hb3 : w.heap.size < W7.heap.size := blk_lt HX7.out.h3
                  clear hNV hk hnw
                  go_upto_region 26 with (go_at_call 19; refine HBH.out.mono ?_; rintro e w8 ⟨A8, c8, rfl, hc8, hF8, hb⟩; have HX8 := Aside0.mk (HX7.out.next hb); have HF8 := Aside0.mk hF8; have HC8 := Aside0.mk hc8; clear hc8 hF8 hb x3 j0 j1 j2)
                  have hx9 := HX8.out.next (below_alloc (Below.refl _ _) (.cells #[.slice A8 NV.length c8] 24))
                  have hv9 := blk_new w8 (.cells #[.slice A8 NV.length c8] 24)
                  have HF9 := Aside0.mk (Kd.F_alloc HF8.out (.cells #[.slice A8 NV.length c8] 24))
                  obtain ⟨bv, hbv⟩ : ∃ b, w8.heap.size = b := ⟨_, rfl⟩
                  rw [hbv] at hv9 ⊢
                  have HX9 := Aside0.mk hx9
                  have HV9 := Aside0.mk hv9
                  clear hbv hx9 hv9 HX8 HF8
                  generalize w8.alloc (.cells #[.slice A8 NV.length c8] 24) = W9 at HX9 HV9 HF9 ⊢
                  have v0 := (blkc HV9.out 0 rfl).1
                  go_wp2_with (first
                    | (go_at_call 17; refine (atriumref12_Right.calls A8 c8 NV true _ (Kd.F_now HF9.out) HC8.out HRV.out).mono ?_; rintro e w10 ⟨rfl, hb⟩; have HX10 := Aside0.mk (HX9.out.next hb); have HF10 := Aside0.mk (Kd.F_below HF9.out hb); have HV10 := Aside0.mk (blk_below HV9.out hb); have v1 := pw_cell_below hb v0; clear hb v0)
                    | (go_at_call 14; refine (pick_Work.calls k A8 c8 NV nw _ (Kd.F_now HF10.out) HC8.out HWK.out).mono ?_; rintro e w11 ⟨rfl, hb⟩; have HX11 := Aside0.mk (HX10.out.next hb); have HF11 := Aside0.mk (Kd.F_below HF10.out hb); have v2 := pw_cell_below hb v1; have x3 := (blkc HX11.out.h3 0 rfl).1; have x3f := (blkc HX11.out.h3 0 rfl).2; clear hb v1))
                  go_roundg k1
                  case measure => omega
                  case rel => exact ⟨i + 1, nw, A8, c8, NV, rfl, by first | rfl | (congr 1; omega) | (simp; done), by omega, by omega, HK1, ⟨HNO.out.2.1, HNW.out.symm, fun l hl t ht => by have := HNO.out.2.2.2 l hl t ht; omega⟩, ⟨HX11.out.put hb3 HF11.out HC8.out⟩⟩
              · obtain rfl : i = 20000 := by omega
                go_wp2
                go_ret
                exact ⟨rfl, HS.out.below⟩
end Go.Proofs.Ytdibolblgchpdaa.P
