/- The law PickLevels, walked by hand. -/
import Derived.Test.YtdibolblgchpdaaH12
import Derived.Test.YtdibolblgchpdaaPSb
namespace Go.Proofs.Ytdibolblgchpdaa.P
open Go.RowKit Go.Proofs.YtdibolblgchpdaaW.PrintWords Go.Proofs.YtdibolblgchpdaaW.PrintLast Go.Proofs.YtdibolblgchpdaaW.PrintMore
attribute [local go_sem] Oper.semAt_some
set_option linter.unusedVariables false
set_option linter.unusedSimpArgs false

theorem rmeetL_l0 (l : List S44) (a b : ByteArray) (hl : l.length < 2513169434916) (d : Nat) : ∀ (i k : Nat) (acc : List S44), acc.length ≤ i → i + d = l.length → d < k →
    atriumref12_Meet.l0 k a b acc l (l.length : Int) (i : Int) = some (acc ++ meetF (l.drop i) a b) := by
  induction d with
  | zero =>
    intro i k acc ha he hk
    obtain ⟨m, rfl⟩ : ∃ m, k = m + 1 := ⟨k - 1, by omega⟩
    simp only [atriumref12_Meet.l0]
    rw [if_neg (by omega), List.drop_eq_nil_of_le (by omega)]
    simp [meetF]
  | succ d ih =>
    intro i k acc ha he hk
    obtain ⟨m, rfl⟩ : ∃ m, k = m + 1 := ⟨k - 1, by omega⟩
    have hi : i < l.length := by omega
    simp only [atriumref12_Meet.l0]
    rw [if_pos (by omega), if_pos (by omega), if_pos (by omega), wr1 i (by omega), get44 l i hi, List.drop_eq_getElem_cons hi]
    have hf : ∀ t, meetF (l[i] :: t) a b = if keepB a b l[i] = true then l[i] :: meetF t a b else meetF t a b := fun t => by
      unfold meetF
      rw [List.filter_cons]
    rw [hf]
    by_cases h1 : Op.bytesLess b.toList l[i].f3.toList = true
    · rw [if_pos h1, if_neg (by unfold keepB outs; rw [h1]; simp)]
      exact ih (i + 1) m acc (by omega) (by omega) (by omega)
    · by_cases h2 : Op.bytesLess l[i].f4.toList a.toList = true
      · rw [if_neg h1, if_pos h2, if_neg (by unfold keepB outs; rw [h2]; simp)]
        exact ih (i + 1) m acc (by omega) (by omega) (by omega)
      · rw [if_neg h1, if_neg h2, if_pos (by omega), if_pos (by unfold keepB outs; rw [Bool.eq_false_iff.mpr h1, Bool.eq_false_iff.mpr h2]; rfl)]
        have h := ih (i + 1) m (acc ++ [l[i]]) (by rw [List.length_append]; simp; omega) (by omega) (by omega)
        rw [List.append_assoc] at h
        exact h
theorem rmeetL (l : List S44) (a b : ByteArray) (hl : l.length < 2513169434916) : atriumref12_Meet.f (l.length + 1) l a b = some (meetF l a b) :=
  rmeetL_l0 l a b hl l.length 0 (l.length + 1) [] (by simp) (by omega) (by omega)
def bytesF (ls : List (List S44)) (n : Int) : Int := if okF ls = true then sumW (lvl ls n) else 0
theorem pbytes_ev (ls : List (List S44)) (n : Int) : Ev (fun k => pick_Bytes.f k ls n) (bytesF ls n) := by
  unfold pick_Bytes.f bytesF
  rw [right_val]
  simp only [Option.bind_some]
  by_cases h : okF ls = true
  · simp only [if_pos h]
    exact Ev.bind (psize_ev ls n (Nat.le_trans (okF_lvl h n) (by decide))) (Ev.now _)
  · simp only [if_neg h]
    exact Ev.now _
theorem rbytes_ev (ls : List (List S44)) (n : Int) (hl : ∀ l ∈ ls, l.length ≤ 2513169434916) : Ev (fun k => atriumref12_Bytes.f k ls n) (bytesF ls n) := by
  unfold atriumref12_Bytes.f bytesF
  rw [rright_val ls hl]
  simp only [Option.bind_some]
  by_cases h : okF ls = true
  · simp only [if_pos h]
    by_cases h0 : n < 0
    · simp only [if_pos h0]
      rw [show lvl ls n = [] from by unfold lvl; rw [if_pos h0]]
      exact Ev.now _
    · simp only [if_neg h0]
      by_cases h1 : n ≥ (ls.length : Int)
      · simp only [if_pos h1]
        rw [show lvl ls n = [] from by unfold lvl; rw [if_neg h0, List.getD_eq_getElem?_getD, List.getElem?_eq_none (by omega)]; rfl]
        exact Ev.now _
      · simp only [if_neg h1, if_pos (show 0 ≤ n by omega), if_pos (show n < (ls.length : Int) by omega)]
        rw [show lvl ls n = rd_L3 ls n from by unfold lvl rd_L3; rw [if_neg h0]]
        exact Ev.bind (rsizes_ev _ (Nat.le_trans (okF_rd h n) (by decide))) (Ev.now _)
  · simp only [if_neg h]
    exact Ev.now _
/-- What stands in memory at PickLevels' comparisons. -/
structure LvSt (w0 : World) (b4 b5 b7 : Nat) (A : Option Addr) (c : Nat) (ls : List (List S44)) (o0 o1 o2 o3 o4 o5 o6 : Int) (a b : ByteArray) (W : World) : Prop where
  hC : Kd.C (Kd.slice 44 k44) W A ls.length ls
  h4 : W.heap[b4]? = some (.cells #[.slice A ls.length c] 24 (0, 0))
  h5 : W.heap[b5]? = some (.cells #[.int .i64 o0, .int .i64 o1, .int .i64 o2, .int .i64 o3, .int .i64 o4, .int .i64 o5, .int .i64 o6] 28 (0, 0))
  h7 : W.heap[b7]? = some (.cells #[.string a, .string b] 48 (0, 0))
  hB : Below w0.heap.size w0 W
section
variable {w0 W W' : World} {b4 b5 b7 : Nat} {A : Option Addr} {c : Nat} {ls : List (List S44)} {o0 o1 o2 o3 o4 o5 o6 : Int} {a b : ByteArray}
theorem LvSt.next (h : LvSt w0 b4 b5 b7 A c ls o0 o1 o2 o3 o4 o5 o6 a b W) (hb : Below W.heap.size W W') : LvSt w0 b4 b5 b7 A c ls o0 o1 o2 o3 o4 o5 o6 a b W' :=
  ⟨Kd.C_below h.hC hb, blk_below h.h4 hb, blk_below h.h5 hb, blk_below h.h7 hb, h.hB.trans (hb.mono h.hB.size)⟩
theorem LvSt.cells (h : LvSt w0 b4 b5 b7 A c ls o0 o1 o2 o3 o4 o5 o6 a b W) : W.cell? ⟨b4, 0, none⟩ = some (.slice A ls.length c) ∧ W.cell? ⟨b5, 0, none⟩ = some (.int .i64 o0) ∧ W.cell? ⟨b5, 1, none⟩ = some (.int .i64 o1) ∧ W.cell? ⟨b5, 2, none⟩ = some (.int .i64 o2) ∧ W.cell? ⟨b5, 3, none⟩ = some (.int .i64 o3) ∧ W.cell? ⟨b5, 4, none⟩ = some (.int .i64 o4) ∧ W.cell? ⟨b5, 5, none⟩ = some (.int .i64 o5) ∧ W.cell? ⟨b5, 6, none⟩ = some (.int .i64 o6) ∧ W.cell? ⟨b7, 0, none⟩ = some (.string a) ∧ W.cell? ⟨b7, 1, none⟩ = some (.string b) :=
  ⟨(blkc h.h4 0 rfl).1, (blkc h.h5 0 rfl).1, (blkc h.h5 1 rfl).1, (blkc h.h5 2 rfl).1, (blkc h.h5 3 rfl).1, (blkc h.h5 4 rfl).1, (blkc h.h5 5 rfl).1, (blkc h.h5 6 rfl).1, (blkc h.h7 0 rfl).1, (blkc h.h7 1 rfl).1⟩
end
set_option maxHeartbeats 8000000 in
set_option maxRecDepth 100000 in
theorem pickLevels_calls (A : Option Addr) (c : Nat) (ls : List (List S44)) (o0 o1 o2 o3 o4 o5 o6 lv : Int) (a b : ByteArray) (w : World) (hC : Kd.C (Kd.slice 44 k44) w A ls.length ls) (hc : ls.length ≤ c) (hls : ls.length ≤ 5864062014805) (hl : ∀ l ∈ ls, l.length ≤ 2513169434843) (hlv : lv < 9223372036854775808 ∧ -9223372036854775808 ≤ lv) :
    Calls Try.prog 5 #[.agg #[.slice A ls.length c], .agg #[.int .i64 o0, .int .i64 o1, .int .i64 o2, .int .i64 o3, .int .i64 o4, .int .i64 o5, .int .i64 o6], .int .i64 lv, .agg #[.string a, .string b]] w fun e w' => e = .returned (.bool true) ∧ Below w.heap.size w w' := by
  have hl3 : ∀ n : Int, (rd_L3 ls n).length ≤ 2513169434843 := fun n => by
    rcases rd_mem ls n with e | e
    · rw [e]; exact Nat.zero_le _
    · exact hl _ e
  obtain ⟨K1, h1⟩ := pbytes_ev ls lv
  obtain ⟨K2, h2⟩ := rbytes_ev ls lv (fun l h => by have := hl l h; omega)
  obtain ⟨K3, h3⟩ := pbound_ev o0 o1 o2 o3 o4 o5 o6 lv hlv
  obtain ⟨K4, h4⟩ := rbound_ev o0 o1 o2 o3 o4 o5 o6 lv
  obtain ⟨k, hk⟩ : ∃ k, k = max (max K1 K2) (max K3 K4) := ⟨_, rfl⟩
  have HK1 := Aside0.mk (h1 k (by omega))
  have HK2 := Aside0.mk (h2 k (by omega))
  have HK3 := Aside0.mk (h3 k (by omega))
  have HK4 := Aside0.mk (h4 k (by omega))
  obtain ⟨bv, hbv⟩ : ∃ x, bytesF ls lv = x := ⟨_, rfl⟩
  obtain ⟨bo, hbo⟩ : ∃ x, boundV o0 o1 o2 o3 o4 o5 o6 lv = x := ⟨_, rfl⟩
  rw [hbv] at HK1 HK2
  rw [hbo] at HK3 HK4
  have HC := Aside0.mk hC
  have HL3 := Aside0.mk hl3
  have hlen : ls.length ≤ 9223372036854775807 := hC.2.1
  clear hC hbv hbo h1 h2 h3 h4 hk hl hl3 hlv
  have g4 := World.alloc_heap_new w (.cells #[.slice A ls.length c] 24)
  have G4 := blk_alloc (blk_alloc g4 (.cells #[.int .i64 o0, .int .i64 o1, .int .i64 o2, .int .i64 o3, .int .i64 o4, .int .i64 o5, .int .i64 o6] 28)) (.cells #[.string a, .string b] 48)
  have g5 := World.alloc_heap_new (w.alloc (.cells #[.slice A ls.length c] 24)) (.cells #[.int .i64 o0, .int .i64 o1, .int .i64 o2, .int .i64 o3, .int .i64 o4, .int .i64 o5, .int .i64 o6] 28)
  rw [World.size_alloc] at g5
  have G5 := blk_alloc g5 (.cells #[.string a, .string b] 48)
  have g7 := World.alloc_heap_new ((w.alloc (.cells #[.slice A ls.length c] 24)).alloc (.cells #[.int .i64 o0, .int .i64 o1, .int .i64 o2, .int .i64 o3, .int .i64 o4, .int .i64 o5, .int .i64 o6] 28)) (.cells #[.string a, .string b] 48)
  rw [World.size_alloc, World.size_alloc] at g7
  have GB := below_alloc (below_alloc (below_alloc (Below.refl w.heap.size w) (.cells #[.slice A ls.length c] 24)) (.cells #[.int .i64 o0, .int .i64 o1, .int .i64 o2, .int .i64 o3, .int .i64 o4, .int .i64 o5, .int .i64 o6] 28)) (.cells #[.string a, .string b] 48)
  have TT := Aside0.mk (LvSt.mk (w0 := w) (Kd.C_below HC.out GB) G4 G5 g7 GB)
  clear g4 G4 g5 G5 g7 GB
  go_enter Try.func5, Try.ntmps5
  go_wp2
  generalize ((w.alloc (.cells #[.slice A ls.length c] 24)).alloc (.cells #[.int .i64 o0, .int .i64 o1, .int .i64 o2, .int .i64 o3, .int .i64 o4, .int .i64 o5, .int .i64 o6] 28)).alloc (.cells #[.string a, .string b] 48) = v0 at TT ⊢
  generalize w.heap.size + 1 + 1 = b7 at TT ⊢
  generalize w.heap.size + 1 = b5 at TT ⊢
  generalize hb4 : w.heap.size = b4 at TT ⊢
  have HST : LvSt w b4 b5 b7 A c ls o0 o1 o2 o3 o4 o5 o6 a b v0 := TT.out
  have HSTD : LvSt w b4 b5 b7 A c ls o0 o1 o2 o3 o4 o5 o6 a b v0.drew := HST.next (below_drew1 (Below.refl _ _))
  clear TT hb4
  go_cut [31] (fun v31 wc => v31 = .bool false ∧ Aside0 (LvSt w b4 b5 b7 A c ls o0 o1 o2 o3 o4 o5 o6 a b wc))
  case first =>
    go_region_held3 (fun w' => w'.cell? ⟨b4, 0, none⟩ = some (.slice A ls.length c) ∧ w'.cell? ⟨b5, 0, none⟩ = some (.int .i64 o0) ∧ w'.cell? ⟨b5, 1, none⟩ = some (.int .i64 o1) ∧ w'.cell? ⟨b5, 2, none⟩ = some (.int .i64 o2) ∧ w'.cell? ⟨b5, 3, none⟩ = some (.int .i64 o3) ∧ w'.cell? ⟨b5, 4, none⟩ = some (.int .i64 o4) ∧ w'.cell? ⟨b5, 5, none⟩ = some (.int .i64 o5) ∧ w'.cell? ⟨b5, 6, none⟩ = some (.int .i64 o6) ∧ w'.cell? ⟨b7, 0, none⟩ = some (.string a) ∧ w'.cell? ⟨b7, 1, none⟩ = some (.string b)) (exact LvSt.cells (by assumption)) (first
      | (go_at_call 7; refine (awake_calls _).mono ?_; rintro e w' ⟨rfl, hb⟩; have st := LvSt.next (by assumption) hb; clear hb)
      | (go_at_call 20; refine (pick_Bytes.calls k A c ls lv bv _ (LvSt.hC (by assumption)) hc HK1.out).mono ?_; rintro e w' ⟨rfl, hb⟩; have st := LvSt.next (by assumption) hb; clear hb)
      | (go_at_call 21; refine (atriumref12_Bytes.calls k A c ls lv bv _ (LvSt.hC (by assumption)) hc HK2.out).mono ?_; rintro e w' ⟨rfl, hb⟩; have st := LvSt.next (by assumption) hb; clear hb)
      | (go_at_call 22; refine (pick_Bound.calls k o0 o1 o2 o3 o4 o5 o6 lv bo _ HK3.out).mono ?_; rintro e w' ⟨rfl, hb⟩; have st := LvSt.next (by assumption) hb; clear hb)
      | (go_at_call 23; refine (atriumref12_Bound.calls k o0 o1 o2 o3 o4 o5 o6 lv bo _ HK4.out).mono ?_; rintro e w' ⟨rfl, hb⟩; have st := LvSt.next (by assumption) hb; clear hb))
    go_wp2
    go_meet
    case rel => exact ⟨by first | rfl | simp, ⟨by assumption⟩⟩
  case rest =>
    obtain ⟨rfl, HW⟩ := hcut
    have p4 := HW.out.cells.1
    clear HST HSTD
    go_wp2
    clear p4
    go_loopg [35] ls.length (fun kq v35 w' => ∃ i : Nat, v35 = .int .i64 i ∧ i ≤ ls.length ∧ Aside0 (kq = ls.length - i) ∧ Aside0 (LvSt w b4 b5 b7 A c ls o0 o1 o2 o3 o4 o5 o6 a b w'))
    case atStart => exact ⟨0, rfl, Nat.zero_le _, ⟨rfl⟩, HW⟩
    case round =>
      clear HW
      obtain ⟨i, rfl, hi, HKi, HW⟩ := hrel
      by_cases hlt : i < ls.length
      · obtain ⟨k1, rfl⟩ : ∃ k1, gk = k1 + 1 := ⟨gk - 1, by have := HKi.out; omega⟩
        have HK1' := Aside0.mk (show k1 = ls.length - (i + 1) by have := HKi.out; omega)
        obtain ⟨ad, A1, n1, ea, x0, hl1, hi1⟩ := at_L3 HW.out.hC (i : Int) (Int.natCast_nonneg _) (by omega)
        subst ea
        rw [Int.toNat_natCast] at x0
        obtain ⟨L, hL⟩ : ∃ L, rd_L3 ls (i : Int) = L := ⟨_, rfl⟩
        have hLn : L.length ≤ 2513169434843 := by rw [← hL]; exact HL3.out _
        rw [hL] at x0 hl1 hi1
        have HL1 := Aside0.mk hl1
        have HI1 := Aside0.mk hi1
        obtain ⟨ks, hks⟩ := (sameT_ev (meetF L a b) (Nat.le_trans (meet_len L a b) (Nat.le_trans hLn (by decide)))).rounds
        have HSM := Aside0.mk hks
        have HRM := Aside0.mk (rmeetL L a b (by omega))
        obtain ⟨_, _, _, _, _, _, _, _, s0, s1⟩ := HW.out.cells
        obtain ⟨M, hM⟩ : ∃ M, meetF L a b = M := ⟨_, rfl⟩
        rw [hM] at HSM HRM
        have HM := Aside0.mk hM
        clear hl1 hi1 hL hks HKi hM
        go_wp2_with (first
          | (go_at_call 24; refine (meet_calls A1 n1 L a b _ HI1.out HL1.out (by omega)).mono ?_; rintro e w1 ⟨A2, n2, rfl, hl2, hC2, hb⟩; rw [HM.out] at hl2 hC2 ⊢; have HL2 := Aside0.mk hl2; have HC2 := Aside0.mk hC2; have HI2 := Aside0.mk (Kd.C_below HI1.out hb); have HW1 := Aside0.mk (HW.out.next hb); obtain ⟨_, _, _, _, _, _, _, _, s2, s3⟩ := HW1.out.cells; clear hb hl2 hC2)
          | (go_at_call 26; refine (atriumref12_Meet.calls (L.length + 1) A1 n1 L a b M _ HI2.out HL1.out HRM.out).mono ?_; rintro e w2 ⟨v2, rfl, hr, hb⟩; obtain ⟨A3, n3, rfl, hl3, hC3⟩ := Kd.R_reads hr; have HL3' := Aside0.mk hl3; have HC3 := Aside0.mk hC3; have HC23 := Aside0.mk (Kd.C_below HC2.out hb); have HW2 := Aside0.mk (HW1.out.next hb); clear hb hr hl3 hC3)
          | (go_at_call 25; refine (atriumlaw12_sameTables.calls ks A2 n2 M A3 n3 M true _ HC23.out HL2.out HC3.out HL3'.out HSM.out).mono ?_; rintro e w3 ⟨rfl, hb⟩; have HW3 := Aside0.mk (HW2.out.next hb.below); clear hb))
        go_roundg k1
        case measure => omega
        case rel => exact ⟨i + 1, by first | rfl | (congr 1; omega) | (simp; done), hlt, HK1', HW3⟩
      · obtain rfl : i = ls.length := by omega
        go_wp2
        go_ret
        exact ⟨rfl, HW.out.hB⟩
end Go.Proofs.Ytdibolblgchpdaa.P
