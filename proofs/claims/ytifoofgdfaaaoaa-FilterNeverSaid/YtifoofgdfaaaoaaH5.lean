/- The document's Build by hand. -/
import Derived.Test.YtifoofgdfaaaoaaH4
import Derived.RegionTactic
import Derived.ChangeAlike
import Derived.StillTailTactics
namespace Go.Proofs.Ytifoofgdfaaaoaa.P
open Go.RowKit Go.Shelf Go.Proofs.YtifoofgdfaaaoaaW.PrintWords Go.Proofs.YtifoofgdfaaaoaaW.PrintLast Go.Proofs.YtifoofgdfaaaoaaW.PrintMore
set_option linter.unusedVariables false
set_option linter.unusedSimpArgs false

theorem place_ref (s : ByteArray) (hs : s.size ≤ 140737488351232) (i : Nat) (hi : i ≤ 1000) (m : Int) (hm : 0 < m) (hm2 : m ≤ 1125899906842624) :
    atriumref07_place.f (1 + 10 * s.size) s (i : Int) m = some (placeAt (hOf s) (dOf s) m i) := by
  unfold atriumref07_place.f
  rw [crc_ref s (by omega)]
  have hc := crcOf_bd s
  have e1 : IntKind.u64.wrap (crcOf s) = crcOf s := by rw [wrapI_u64]; omega
  have e2 : IntKind.u64.wrap ((s.size : Int)) = (s.size : Int) := by rw [wrapI_u64]; omega
  have e3 : IntKind.u64.wrap m = m := by rw [wrapI_u64]; omega
  have e4 : IntKind.u64.wrap ((i : Int)) = (i : Int) := by rw [wrapI_u64]; omega
  simp only [Option.bind_some, mix_ref, e1, e2, e3, e4]
  rw [if_neg (by omega)]
  have hb := placeAt_bd (hOf s) (dOf s) m i hm
  have ht : Int.tmod (IntKind.u64.wrap (hOf s + IntKind.u64.wrap ((i : Int) * dOf s))) m = placeAt (hOf s) (dOf s) m i := by
    rw [Int.tmod_eq_emod_of_nonneg (by rw [wrapI_u64]; omega)]; rfl
  change some (wrap64 (Int.tmod (IntKind.u64.wrap (hOf s + IntKind.u64.wrap ((i : Int) * dOf s))) m)) = _
  rw [ht]
  congr 1
  unfold wrap64
  omega
/-- Between two places of the document's own Build. -/
structure RefAt (w W : World) (N : Nat) (L : List Int) : Prop where
  below : Below w.heap.size w W
  row : W.heap[w.heap.size]? = some (.cells (nums .u8 L).toArray 5 (0, 0))
  len : L.length = N + 1
set_option maxHeartbeats 4000000 in
set_option maxRecDepth 100000 in
theorem rbuild_core (A0 : Option Addr) (c0 : Nat) (l0 : List ByteArray) (b : Int) (hb1 : 1 ≤ b) (hb32 : b ≤ 32) (hn : l0.length ≤ 65536) (hks : ∀ s ∈ l0, s.size ≤ 140737488351232)
    (w : World) (hr0 : Kd.C Kd.string w A0 l0.length l0) (hc0 : l0.length ≤ c0) :
    Calls Try.prog 9 #[.slice A0 l0.length c0, .int .i64 b] w fun e w' => ∃ v0_ : Value, e = .returned (.tuple #[v0_, .int .i64 0]) ∧ Kd.R (Kd.int .u8) 5 w' w.heap.size (fun _ => True) v0_ (buildBytes l0 b) ∧ Below w.heap.size w w' := by
  obtain ⟨p, hp⟩ : ∃ p : Int, (l0.length : Int) * b = p := ⟨_, rfl⟩
  have hp0 : 0 ≤ p := by rw [← hp]; exact Int.mul_nonneg (by omega) (by omega)
  have hp1 : p ≤ 2097152 := by
    rw [← hp]
    calc (l0.length : Int) * b ≤ 65536 * 32 := Int.mul_le_mul (by omega) hb32 (by omega) (by omega)
      _ = 2097152 := by decide
  obtain ⟨N, hN⟩ : ∃ N : Nat, (max 64 p + 7) / 8 = (N : Int) := ⟨((max 64 p + 7) / 8).toNat, by omega⟩
  have hN8 : 8 ≤ N ∧ N ≤ 262144 := by omega
  have hBN : bytesFor l0.length b = N := by
    unfold bytesFor
    rw [hp, hN]
    simp
  obtain ⟨k, hk⟩ : ∃ k : Nat, min (max (b * 69 / 100) 1) 30 = (k : Int) := ⟨(min (max (b * 69 / 100) 1) 30).toNat, by omega⟩
  have hk0 : 1 ≤ k ∧ k ≤ 22 := by omega
  have hPF : placesFor b = k := by
    unfold placesFor
    rw [hk]
    simp
  have hmk : ∀ W : World, (Instr.makeSlice 24 (.int .i64 ((N : Int) + 1)) (.int .i64 ((N : Int) + 1))).run Try.prog W = .ok (.slice (some ⟨W.heap.size, 0, none⟩) (N + 1) (N + 1)) (W.alloc (.cells (nums .u8 (List.replicate (N + 1) 0)).toArray 5)) := by
    intro W
    have := print_make (P := Try.prog) 24 5 .u8 1 Try.underlying24 info5 (by decide) (N + 1) (by omega) W
    rw [nums_made] at this
    simpa using this
  obtain ⟨L0, hL0⟩ : ∃ L0, nums .u8 (List.replicate (N + 1) 0) = L0 := ⟨_, rfl⟩
  rw [hL0] at hmk
  have hLN : L0[N]? = some (.int .u8 0) := by rw [← hL0]; simp [nums]
  have HL0 := Aside0.mk hL0
  have HR0 := Aside0.mk hr0
  have HKS := Aside0.mk hks
  have HBN := Aside0.mk hBN
  have HPF := Aside0.mk hPF
  have HK := Aside0.mk hk
  have HN := Aside0.mk hN
  clear hr0 hks hBN hPF hL0 hk hN
  obtain ⟨q, hq⟩ : ∃ q : Int, q = max 64 p := ⟨_, rfl⟩
  have hq7 : (q + 7) / 8 = (N : Int) := by rw [hq]; exact HN.out
  have hq0 : 64 ≤ q ∧ q ≤ 2097152 := by omega
  have HQ := Aside0.mk hq
  obtain ⟨r, hr⟩ : ∃ r : Int, r = max (b * 69 / 100) 1 := ⟨_, rfl⟩
  have hr0' : 1 ≤ r ∧ r ≤ 22 := by omega
  have hkr : r = (k : Int) := by have := HK.out; omega
  have HRR := Aside0.mk hr
  have HKR := Aside0.mk hkr
  have HQ7 := Aside0.mk hq7
  clear hq hr hkr hq7
  go_enter Try.func9, Try.ntmps9
  go_upto_if 26 with (fail)
  go_cut [6] (fun v6 wc => v6 = .int .i64 q ∧ wc = w)
  case first =>
    by_cases hc : p < 64
    · go_wp2
      go_meet
      case rel => exact ⟨by have := HQ.out; congr 1; omega, rfl⟩
    · go_wp2
      go_meet
      case rel => exact ⟨by have := HQ.out; congr 1; omega, rfl⟩
  case rest =>
    obtain ⟨rfl, rfl⟩ := hcut
    go_upto_if 35 with (fail)
    go_cut [7] (fun v7 wc' => v7 = .int .i64 r ∧ wc' = wc)
    case first =>
      by_cases hc : b * 69 / 100 < 1
      · go_wp2
        go_meet
        case rel => exact ⟨by have := HRR.out; congr 1; omega, rfl⟩
      · go_wp2
        go_meet
        case rel => exact ⟨by have := HRR.out; congr 1; omega, rfl⟩
    case rest =>
      obtain ⟨rfl, rfl⟩ := hcut
      rw [HQ7.out, HKR.out]
      clear hr0' hq0 hp0 hp1 hp
      have hreg : wc.heap.size = wc.heap.size := rfl
      clear hreg
      go_wp2
      go_loopw [9] (fun v9 W => ∃ j : Nat, j ≤ l0.length ∧ v9 = .int .i64 j ∧ RefAt wc W N (bytesAt N k l0 j)) (fun v9 _ => l0.length - (intOf v9).toNat)
      case atStart =>
        refine ⟨0, by omega, rfl, below_alloc (Below.refl _ _) _, ?_, bytesAt_length _ _ _ _⟩
        refine (World.alloc_heap_new wc _).trans ?_
        have e : (L0.set N (Value.int .u8 (k : Int))).toArray = (nums .u8 (bytesAt N k l0 0)).toArray := by
          rw [← HL0.out]
          have := nums_put .u8 (List.replicate (N + 1) 0) N (k : Int)
          simp only [List.setIfInBounds_toArray] at this
          rw [this]
          congr 1
          unfold bytesAt keysBits
          simp only [List.take_zero, List.foldl_nil]
          rw [List.replicate_succ', List.set_append]
          simp
        rw [e]
      case round =>
        clear hmk hLN
        obtain ⟨j, hj, rfl, hat⟩ := hrel
        have HAT := Aside0.mk hat
        clear hat
        by_cases hlt : j < l0.length
        · obtain ⟨ad, ea, hx⟩ := Kd.at_string HR0.out (j : Int) (by omega) (by omega)
          subst ea
          rw [Int.toNat_natCast] at hx
          obtain ⟨s, hs⟩ : ∃ s, rdOf ByteArray.empty l0 (j : Int) = s := ⟨_, rfl⟩
          have hsl : l0[j]? = some s := by rw [← hs]; simp [rdOf, List.getD_eq_getElem?_getD, List.getElem?_eq_getElem hlt]
          rw [hs] at hx
          have hsm := HKS.out s (List.mem_of_getElem? hsl)
          have HSL := Aside0.mk hsl
          have HX := Aside0.mk hx
          have HSM := Aside0.mk hsm
          clear hs hx hsl hsm
          go_wp2
          obtain ⟨wo, hwo⟩ : ∃ wo : World, wo = wr := ⟨_, rfl⟩
          go_loopw [10] (fun v10 W => ∃ i : Nat, i ≤ k ∧ v10 = .int .i64 i ∧ RefAt wc W N (keyBits (hOf s) (dOf s) ((N : Int) * 8) i (bytesAt N k l0 j))) (fun v10 _ => k - (intOf v10).toNat)
          case atStart => exact ⟨0, by omega, rfl, HAT.out⟩
          case round =>
            clear hwo HAT
            obtain ⟨i, hi, rfl, hat⟩ := hrel
            have HAT := Aside0.mk hat
            clear hat
            by_cases hik : i < k
            · have hbd := placeAt_bd (hOf s) (dOf s) ((N : Int) * 8) i (by omega)
              have HPC := Aside0.mk (fun w => atriumref07_place.calls _ s (i : Int) ((N : Int) * 8) _ w (place_ref s HSM.out i (by omega) _ (by omega) (by omega)))
              obtain ⟨pp, hpq⟩ : ∃ pp, placeAt (hOf s) (dOf s) ((N : Int) * 8) i = pp := ⟨_, rfl⟩
              have HPQ := Aside0.mk hpq
              rw [hpq] at hbd HPC
              clear hpq
              have hxc : wr.cell? (ad.add j) = some (.string s) := (HAT.out.below.cell (World.block_lt_of_cell? wc _ HX.out)).trans HX.out
              go_wp2_with (go_at_call 20; refine (HPC.out _).mono ?_; rintro e w' ⟨rfl, ⟨nd, rfl⟩⟩)
              clear HPC hxc
              have hlen := HAT.out.len
              have hcr := blk_cell1 HAT.out.row (pp / 8).toNat (nums_at .u8 _ (pp / 8) (by omega) (by omega))
              obtain ⟨Lc, hLc⟩ : ∃ Lc, keyBits (hOf s) (dOf s) ((N : Int) * 8) i (bytesAt N k l0 j) = Lc := ⟨_, rfl⟩
              rw [hLc] at hcr
              have HLC := Aside0.mk hLc
              have hcr1 := hcr.1
              have hcr2 := hcr.2
              clear hcr hLc hlen
              have hq1 : 0 ≤ pp / 8 := by omega
              have hq2 : pp / 8 < (N : Int) + 1 := by omega
              have HBL := Aside0.mk (pw_below_drewN HAT.out.below nd)
              have HRW : (wr.drewN nd).heap[wc.heap.size]? = some (.cells (nums .u8 Lc).toArray 5 (0, 0)) := by rw [← HLC.out]; exact HAT.out.row
              have HRW := Aside0.mk HRW
              have hcr1 : (wr.drewN nd).cell? ⟨wc.heap.size, (pp / 8).toNat, none⟩ = some (.int .u8 (rd Lc (pp / 8))) := hcr1
              have hcr2 : (wr.drewN nd).frozen? ⟨wc.heap.size, (pp / 8).toNat, none⟩ = false := hcr2
              generalize wr.drewN nd = w2 at hcr1 hcr2 HBL HRW ⊢
              have hc1 : World.cell? { w2 with drawn := w2.drawn + 1 } ⟨wc.heap.size, (pp / 8).toNat, none⟩ = some (.int .u8 (rd Lc (pp / 8))) := hcr1
              have e1 : pp.tdiv 8 = pp / 8 := Int.tdiv_eq_ediv_of_nonneg (by omega)
              have e3 : pp.tmod 8 = pp % 8 := Int.tmod_eq_emod_of_nonneg (by omega)
              have e2 : IntKind.i64.wrap (pp / 8) = pp / 8 := IntWalk.i64_in _ (by omega)
              have e4 : IntKind.i64.wrap (pp % 8) = pp % 8 := IntWalk.i64_in _ (by omega)
              have e5 : 0 ≤ pp % 8 := by omega
              have e6 : pp % 8 ≤ 8 := by omega
              have e7 : ¬ pp % 8 < 0 := by omega
              have e8 : ((2 : Int) ^ (pp % 8).toNat) % 256 = 2 ^ (pp % 8).toNat := pow_small _ (by omega)
              go_still_tail 13, (by kernel_rfl)
              change wpList _ _ _ _ _ w2.drew
              clear hc1
              go_wp2
              refine ⟨⟨i + 1, by omega, by go_num, ?_⟩, by simp [intOf]; omega⟩
              refine ⟨below_drew1 (HBL.out.setCell (p := ⟨wc.heap.size, (pp / 8).toNat, none⟩) (Nat.le_refl _) _), ?_, by rw [keyBits_length, bytesAt_length]⟩
              have h := blk_set HRW.out (pp / 8).toNat (.int .u8 (bits .or .u8 (rd Lc (pp / 8)) (2 ^ (pp % 8).toNat)))
              rw [nums_put] at h
              have e : keyBits (hOf s) (dOf s) ((N : Int) * 8) (i + 1) (bytesAt N k l0 j) = Lc.set (pp / 8).toNat (bits .or .u8 (rd Lc (pp / 8)) (2 ^ (pp % 8).toNat)) := by
                show setBit (keyBits (hOf s) (dOf s) ((N : Int) * 8) i (bytesAt N k l0 j)) _ = _
                rw [HLC.out, HPQ.out]
                rfl
              rw [e]
              exact h
            · obtain rfl : i = k := by omega
              go_wp2
              refine ⟨⟨j + 1, by omega, by go_num, ?_⟩, by simp [intOf]; omega⟩
              have e : bytesAt N i l0 (j + 1) = keyBits (hOf s) (dOf s) ((N : Int) * 8) i (bytesAt N i l0 j) := by
                unfold bytesAt keysBits
                rw [List.take_add_one, HSL.out, Option.toList_some, List.foldl_append]
                rfl
              rw [e]
              exact HAT.out
        · obtain rfl : j = l0.length := by omega
          go_wp2
          go_ret2
          have e : buildBytes l0 b = bytesAt N k l0 l0.length := by
            unfold buildBytes bytesAt
            rw [HBN.out, HPF.out, List.take_length]
          refine ⟨_, rfl, ?_, HAT.out.below⟩
          rw [e]
          have h := R_of_blk (base := wc.heap.size) HAT.out.row (Nat.le_refl _) (by rw [bytesAt_length]; omega)
          rw [bytesAt_length] at h
          exact h
def atriumref07_Build.f (l0 : List ByteArray) (a1 : Int) : Option (List Int × Int) := filter_Build.f l0 a1
set_option maxHeartbeats 4000000 in
set_option maxRecDepth 100000 in
theorem atriumref07_Build.calls (A0 : Option Addr) (c0 : Nat) (l0 : List ByteArray) (a1 : Int) (r1 : List Int) (r2 : Int) (w : World) (hr0 : Kd.C Kd.string w A0 l0.length l0) (hc0 : l0.length ≤ c0) (h : atriumref07_Build.f l0 a1 = some (r1, r2)) :
    Calls Try.prog 9 #[.slice A0 l0.length c0, .int .i64 a1] w fun e w' => ∃ v0_ : Value, e = .returned (.tuple #[v0_, .int .i64 r2]) ∧ Kd.R (Kd.int .u8) 5 w' w.heap.size (fun _ => True) v0_ r1 ∧ Below w.heap.size w w' := by
  unfold atriumref07_Build.f filter_Build.f at h
  by_cases hall : l0.all (fun s => decide (s.size ≤ 140737488351232)) = true
  rotate_left
  · rw [if_neg hall] at h; cases h
  rw [if_pos hall] at h
  have h := Option.some.inj h
  unfold buildOf at h
  have hks : ∀ s ∈ l0, s.size ≤ 140737488351232 := fun s hs => of_decide_eq_true (List.all_eq_true.1 hall s hs)
  by_cases hb : a1 < 1 ∨ a1 > 32
  · rw [if_pos hb] at h
    obtain ⟨rfl, rfl⟩ := Prod.mk.inj h
    have hb1 : decide (a1 < 1) = true ∨ (decide (a1 < 1) = false ∧ decide (32 < a1) = true) := by
      rcases hb with hb | hb
      · exact .inl (decide_eq_true hb)
      · exact .inr ⟨decide_eq_false (by omega), decide_eq_true hb⟩
    clear hr0 h hks hall hb
    rcases hb1 with hb1 | ⟨hb1, hb2⟩
    all_goals
      go_enter Try.func9, Try.ntmps9
      go_wp2
      go_ret2
      exact ⟨_, rfl, Kd.R_nil _ _ _ _ _, Below.refl _ _⟩
  · rw [if_neg hb] at h
    by_cases hn : l0.length > 65536
    · rw [if_pos hn] at h
      obtain ⟨rfl, rfl⟩ := Prod.mk.inj h
      have hb1 : decide (a1 < 1) = false := decide_eq_false (by omega)
      have hb2 : decide (32 < a1) = false := decide_eq_false (by omega)
      have hn1 : decide (65536 < (l0.length : Int)) = true := decide_eq_true (by omega)
      have hn2 : decide (65536 < l0.length) = true := decide_eq_true (by omega)
      clear hr0 h hks hall hb hn
      go_enter Try.func9, Try.ntmps9
      go_wp2
      go_ret2
      exact ⟨_, rfl, Kd.R_nil _ _ _ _ _, Below.refl _ _⟩
    · rw [if_neg hn] at h
      obtain ⟨rfl, rfl⟩ := Prod.mk.inj h
      exact rbuild_core A0 c0 l0 a1 (by omega) (by omega) (by omega) hks w hr0 hc0
end Go.Proofs.Ytifoofgdfaaaoaa.P
