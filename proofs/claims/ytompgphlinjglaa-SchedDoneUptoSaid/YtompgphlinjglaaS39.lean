/- SchedDone: its walk. -/
import Derived.Test.YtompgphlinjglaaS35
import Derived.Test.YtompgphlinjglaaS30
import Derived.Test.YtompgphlinjglaaS16
namespace Go.Proofs.Ytompgphlinjglaa.P
open Go.RowKit Go.Proofs.YtompgphlinjglaaW.PrintWords Go.Proofs.YtompgphlinjglaaW.PrintLast Go.Proofs.YtompgphlinjglaaW.PrintMore
attribute [local go_sem] Oper.semAt_some
set_option linter.unusedVariables false
set_option linter.unusedSimpArgs false

theorem info31d : (Try.prog.info? 31).map (fun i => (i.zero, i.size, i.bytes)) = some (some (.agg #[.int .i64 0, .int .i64 0]), 2, 16) := by kernel_rfl
section
variable {k : Nat} {w w0 : World} {g0 : Nat → Tag} {q pl pr : Nat} {S R : LS}
theorem Cu.name (h : Cu k g0 w0 q pl pr S R w) : ∃ W, W = w ∧ Cu k g0 w0 q pl pr S R W := ⟨w, rfl, h⟩
/-- A further task whose acts lie in a row that is new since the state. -/
theorem Cu.addRow (h : Cu k g0 w0 q pl pr S S w) {W : World} (hb : Below w.heap.size w W) {A : Option Addr} {c : Nat} {acts : List (Int × Int)} (hR : Kd.R kAct 31 W w.heap.size (fun _ => True) (.slice A acts.length c) acts) (hl : acts.length ≤ 8796093022208) (hn : S.tasks.length ≤ 64) :
    Calls Try.prog 10 #[.pointer (some ⟨q, 0, none⟩), .slice A acts.length c] W fun e w' => e = .returned (.bool true) ∧ ∃ pl pr, Cu k g0 w0 q pl pr (addF S acts) (addF S acts) w' := by
  obtain ⟨g, e, o, bo⟩ := id h
  have hs := o.size
  obtain ⟨g1, hg1⟩ : ∃ g1 : Nat → Tag, g1 = fun i => if (Value.slice A acts.length c).ownBlock = some i then Tag.data else g i := ⟨_, rfl⟩
  have E : Ext w.heap.size g g1 := by
    intro i hi
    rw [hg1]
    refine if_neg (fun he => ?_)
    have := ((Kd.R_bound hR).1 i he).2.1
    omega
  have D : Dat kAct W g1 A acts.length acts := Kd.F_mono (Kd.R_F (Kd.R_tight rfl hR)) (fun k hk => by rw [hg1]; exact if_pos hk.symm)
  have h1 : Cu k g1 W q pl pr S S W := Cu.of (bo.move (Only.of_below hb (fun _ => False) g) E (fun h => h) (fun _ _ h => h))
  refine (h1.add D (Kd.R_reads' hR).2.1 hl hn).mono ?_
  rintro ev w' ⟨rfl, pl1, pr1, h2⟩
  exact ⟨rfl, pl1, pr1, Cu.after (e.trans E hs) (o.below hb) h2⟩
end
theorem end_free {S : LS} (hf : ∀ t ∈ S.tasks, Free t) (hp : ∀ x ∈ S.picks, 0 ≤ x) (hc : S.count = 0) (hl : lefF S ≤ 1048576) :
    ranF (1048576 : Int).toNat S = lefF S ∧ (runF (1048576 : Int).toNat S).count = lefF S ∧ readyF (runF (1048576 : Int).toNat S) = [] ∧ (!(waitsF (runF (1048576 : Int).toNat S)).any p38) = true := by
  obtain ⟨h1, h2, h3⟩ := run_free (1048576 : Int).toNat S hf hp (by omega)
  obtain ⟨h4, h5⟩ := done_free h3
  refine ⟨h1, by omega, h4, ?_⟩
  have e : (waitsF (runF (1048576 : Int).toNat S)).any p38 = false := h5
  rw [e]
  rfl
theorem check_picks {l0 l1 l2 : List Int} (hk : checkF l0 l1 l2 = 0) : (l0.length ≤ 65536 ∧ l1.length ≤ 65536 ∧ l2.length ≤ 65536) ∧ ∀ x ∈ l0, 0 ≤ x := by
  unfold checkF at hk
  by_cases hh : 65536 < l0.length ∨ 65536 < l1.length ∨ 65536 < l2.length
  · rw [if_pos hh] at hk; exact absurd hk (by decide)
  · rw [if_neg hh] at hk
    refine ⟨by omega, fun x hx => ?_⟩
    by_cases h2 : (l0.any fun n => decide (n < 0)) = true ∨ (l1.any fun n => decide (n < 0) || decide (2147483647 < n)) = true
    · rw [if_pos h2] at hk; exact absurd hk (by decide)
    · by_cases h3 : x < 0
      · exact absurd (.inl (List.any_eq_true.2 ⟨x, hx, by simpa using h3⟩)) h2
      · omega
set_option maxHeartbeats 8000000 in
set_option maxRecDepth 100000 in
theorem schedDoneNot_calls (A0 : Option Addr) (c0 : Nat) (l0 : List Int) (A1 : Option Addr) (c1 : Nat) (l1 : List Int) (A2 : Option Addr) (c2 : Nat) (l2 : List Int) (B : Option Addr) (n cb : Nat) (w : World) (h0 : Kd.C (Kd.int .i64) w A0 l0.length l0) (hc0 : l0.length ≤ c0) (h1 : Kd.C (Kd.int .i64) w A1 l1.length l1) (hc1 : l1.length ≤ c1) (h2 : Kd.C (Kd.int .u64) w A2 l2.length l2) (hc2 : l2.length ≤ c2) (hk : checkF l0 l1 l2 ≠ 0) :
    Calls Try.prog 4 #[.agg #[.slice A0 l0.length c0, .slice A1 l1.length c1, .slice A2 l2.length c2], .slice B n cb] w fun e w' => e = .returned (.bool true) ∧ Below w.heap.size w w' := by
  have HB := Aside0.mk (below_alloc (Below.refl w.heap.size w) (.cells #[.slice A0 l0.length c0, .slice A1 l1.length c1, .slice A2 l2.length c2] 28))
  have HN := Aside0.mk (fun (W : World) (hb : Below w.heap.size w W) => startNot_calls A0 c0 l0 A1 c1 l1 A2 c2 l2 W (Kd.C_below h0 hb) hc0 (Kd.C_below h1 hb) hc1 (Kd.C_below h2 hb) hc2 hk)
  clear h0 h1 h2 hc0 hc1 hc2 hk
  go_enter Try.func4, Try.ntmps4
  go_wp2_with (go_at_call 9; refine (HN.out _ HB.out).mono ?_; rintro e w1 ⟨rfl, hb⟩; have HB1 := Aside0.mk (below_step HB.out hb); clear hb)
  go_ret
  exact ⟨rfl, HB1.out⟩
set_option maxHeartbeats 8000000 in
set_option maxRecDepth 100000 in
theorem schedDone_calls (A0 : Option Addr) (c0 : Nat) (l0 : List Int) (A1 : Option Addr) (c1 : Nat) (l1 : List Int) (A2 : Option Addr) (c2 : Nat) (l2 : List Int) (B : Option Addr) (cb : Nat) (xs : List (List (Int × Int))) (w : World) (h0 : Kd.C (Kd.int .i64) w A0 l0.length l0) (hc0 : l0.length ≤ c0) (h1 : Kd.C (Kd.int .i64) w A1 l1.length l1) (hc1 : l1.length ≤ c1) (h2 : Kd.C (Kd.int .u64) w A2 l2.length l2) (hc2 : l2.length ≤ c2) (hk : checkF l0 l1 l2 = 0) (hB : Kd.C kActs w B xs.length xs) :
    Calls Try.prog 4 #[.agg #[.slice A0 l0.length c0, .slice A1 l1.length c1, .slice A2 l2.length c2], .slice B xs.length cb] w fun e w' => e = .returned (.bool true) ∧ Below w.heap.size w w' := by
  obtain ⟨hlen, hpk⟩ := check_picks hk
  have HB := Aside0.mk (below_alloc (Below.refl w.heap.size w) (.cells #[.slice A0 l0.length c0, .slice A1 l1.length c1, .slice A2 l2.length c2] 28))
  have D0 := Aside0.mk (fun (W : World) (hb : Below w.heap.size w W) => dat_arg (Kd.heap_int _) (Kd.C_below h0 hb))
  have D1 := Aside0.mk (fun (W : World) (hb : Below w.heap.size w W) => dat_arg (Kd.heap_int _) (Kd.C_below h1 hb))
  have D2 := Aside0.mk (fun (W : World) (hb : Below w.heap.size w W) => dat_arg (Kd.heap_int _) (Kd.C_below h2 hb))
  have HXS := Aside0.mk hB
  have HPK := Aside0.mk hpk
  have HN := Aside0.mk (fun (W : World) (hb : Below w.heap.size w W) => start_calls 0 gData A0 c0 l0 A1 c1 l1 A2 c2 l2 W (D0.out W hb) hc0 (D1.out W hb) hc1 (D2.out W hb) hc2 hk hlen)
  have HG := Aside0.mk (show Good 0 (S0 l0 l1 l2) from ⟨by show 0 ≤ 64; omega, fun t ht => absurd ht (by simp [S0]), Nat.le_refl _, Nat.le_refl _, hlen.1, hlen.2.1, hlen.2.2, Nat.zero_le _⟩)
  have HF := Aside0.mk (show (∀ t ∈ (S0 l0 l1 l2).tasks, Free t) ∧ (S0 l0 l1 l2).tasks.length = 0 ∧ (S0 l0 l1 l2).count = 0 ∧ (S0 l0 l1 l2).picks = l0 ∧ lefF (S0 l0 l1 l2) = 0 from ⟨fun t ht => absurd ht (by simp [S0]), rfl, rfl, rfl, rfl⟩)
  clear h0 h1 h2 hc0 hc1 hc2 hk hB hlen hpk
  go_enter Try.func4, Try.ntmps4
  go_upto_region 2 with (go_at_call 9; refine (HN.out _ HB.out).mono ?_; rintro e w1 ⟨q, rfl, hb, g1, he, hbo⟩; obtain ⟨pl, pr, hcu⟩ := Cu.of_both he hb hbo; have HC1 := Aside0.mk hcu; clear hb he hbo hcu)
  clear HN D0 D1 D2
  generalize hw0 : w.alloc (.cells #[.slice A0 l0.length c0, .slice A1 l1.length c1, .slice A2 l2.length c2] 28) = w0 at HC1 HB
  clear hw0
  have HX0 := Aside0.mk (Kd.C_below HXS.out HB.out)
  obtain ⟨N, hN1, hN2, hN3⟩ : ∃ N : Nat, N ≤ 64 ∧ N ≤ xs.length ∧ (N = 64 ∨ N = xs.length) := ⟨min xs.length 64, by omega, by omega, by omega⟩
  have HN2 := Aside0.mk hN2
  have HN3 := Aside0.mk hN3
  clear hN2 hN3
  go_wp2
  go_loopg [7, 8] N (fun kq v7 v8 w' => ∃ (i a pl pr : Nat) (S : LS), v7 = .int .i64 a ∧ v8 = .int .i64 i ∧ i ≤ N ∧ a ≤ 201 * i ∧ Aside0 (kq = N - i) ∧ Aside0 (Good 0 S) ∧ Aside0 ((∀ t ∈ S.tasks, Free t) ∧ S.tasks.length = i ∧ S.count = 0 ∧ S.picks = l0 ∧ lefF S = a) ∧ Aside0 (Cu 0 gData w0 q pl pr S S w'))
  case atStart => exact ⟨0, 0, _, _, _, rfl, rfl, Nat.zero_le _, Nat.zero_le _, ⟨rfl⟩, HG, HF, HC1⟩
  case round =>
    clear HG HC1 HF
    obtain ⟨i, a, pl3, pr3, S, rfl, rfl, hi, ha, HK, HG, HF, HC⟩ := hrel
    obtain ⟨wc, rfl, hC⟩ := HC.out.name
    have hxm : xs.length ≤ 9223372036854775807 := HX0.out.2.1
    by_cases hlt : i < N
    · obtain ⟨k1, rfl⟩ : ∃ k1, gk = k1 + 1 := ⟨gk - 1, by have := HK.out; omega⟩
      have HK1 := Aside0.mk (show k1 = N - (i + 1) by have := HK.out; omega)
      have hix : i < xs.length := by have := HN2.out; omega
      obtain ⟨ad, A9, c9, e9, z9, hl9, hC9⟩ := at_acts HX0.out i hix
      cases e9
      obtain ⟨L, hL⟩ : ∃ l, xs.getD i [] = l := ⟨_, rfl⟩
      rw [hL] at z9 hl9 hC9
      have Z9 := Aside0.mk z9
      have HC9 := Aside0.mk hC9
      have hLm : L.length ≤ 9223372036854775807 := hC9.2.1
      have dl : decide ((i : Int) < xs.length) = true := decide_eq_true (by omega)
      have dl2 : decide ((i : Int) < 64) = true := decide_eq_true (by omega)
      obtain ⟨M, hM1, hM2, hM3⟩ : ∃ M : Nat, M ≤ 200 ∧ M ≤ L.length ∧ (M = 200 ∨ M = L.length) := ⟨min L.length 200, by omega, by omega, by omega⟩
      have HM2 := Aside0.mk hM2
      have HM3 := Aside0.mk hM3
      clear hL HK z9 hC9 hM2 hM3 hl9
      go_wp2
      go_loopg [9, 10] M (fun kq v9 v10 w' => ∃ (j : Nat) (u : Value) (acts : List (Int × Int)), u = v9 ∧ v10 = .int .i64 j ∧ j ≤ M ∧ acts.length ≤ j ∧ Aside0 (kq = M - j) ∧ Aside0 (∀ x ∈ acts, x.1 ≠ 2) ∧ Aside0 (Kd.R kAct 31 w' wc.heap.size (fun _ => True) u acts) ∧ Aside0 (Below wc.heap.size wc w'))
      case atStart => exact ⟨0, _, [], rfl, rfl, Nat.zero_le _, Nat.zero_le _, ⟨rfl⟩, ⟨fun x hx => absurd hx (by simp)⟩, ⟨Kd.R_nil _ _ _ _ _⟩, ⟨Below.refl _ _⟩⟩
      case round =>
        obtain ⟨j, v9, acts, rfl, rfl, hj, hal, HKj, HA, HR, HBj⟩ := hrel
        have HBw := Aside0.mk (HC.out.fin.trans (HBj.out.mono HC.out.fin.size))
        have z9 := pw_cell_below HBw.out Z9.out
        by_cases hjl : j < M
        · obtain ⟨k2, rfl⟩ : ∃ k2, gk = k2 + 1 := ⟨gk - 1, by have := HKj.out; omega⟩
          have HK2 := Aside0.mk (show k2 = M - (j + 1) by have := HKj.out; omega)
          have hjL : j < L.length := by have := HM2.out; omega
          have dl3 : decide ((j : Int) < L.length) = true := decide_eq_true (by omega)
          have dl4 : decide ((j : Int) < 200) = true := decide_eq_true (by omega)
          obtain ⟨ad2, e2, x0, x1⟩ := at_act (Kd.C_below HC9.out HBw.out) j hjL
          subst e2
          obtain ⟨⟨a1, a2⟩, hz⟩ : ∃ z, L.getD j (0, 0) = z := ⟨_, rfl⟩
          rw [hz] at x0 x1
          clear hz HKj
          by_cases h2 : a1 = 2
          · have hb : (a1 != 2) = false := by simp [h2]
            clear h2
            go_wp2
            go_roundg k2
            case measure => omega
            case rel => exact ⟨j + 1, v9, acts, rfl, by first | rfl | (congr 1; omega) | (simp; done), hjl, by omega, HK2, HA, HR, HBj⟩
          · have hb : (a1 != 2) = true := by simp [h2]
            have HA2 := Aside0.mk (show ∀ x ∈ acts ++ [(a1, a2)], x.1 ≠ 2 by
              intro x hx
              rcases List.mem_append.1 hx with e | e
              · exact HA.out x e
              · rw [List.mem_singleton.1 e]; exact h2)
            clear h2
            go_wp2_with ((with_reducible refine gate_builtin (b := .append) (xs := #[.tmp 55, .tmp 63]) rfl ?_); at_builtin; refine Kd.R_append kAct (w0 := wc) wc.heap.size rfl (.tmp 55) (.tmp 63) 32 31 (.agg #[.int .i64 0, .int .i64 0]) 16 rfl Try.underlying32 info31d rfl (by decide) (by omega) v9 acts (a1, a2) [.int .i64 a1, .int .i64 a2] (fun _ => True) (fun _ => False) rfl rfl ⟨[.int .i64 a1], [.int .i64 a2], rfl, rfl, rfl⟩ (fun _ h => h.elim) (fun _ _ => trivial) HR.out HBj.out (below_size HBj.out) (by omega) ?_; intro v2 w2 ho2 hb2 hg2 hat2; clear hg2 hat2; have HO2 := Aside0.mk ho2; have HB2 := Aside0.mk hb2; clear ho2 hb2)
            go_roundg k2
            case measure => omega
            case rel => exact ⟨j + 1, v2, acts ++ [(a1, a2)], rfl, by first | rfl | (congr 1; omega) | (simp; done), hjl, by rw [List.length_append]; show acts.length + 1 ≤ j + 1; omega, HK2, HA2, HO2, HB2⟩
        · obtain rfl : j = M := by omega
          have HAD := Aside0.mk (fun (A : Option Addr) (c : Nat) (h : v9 = .slice A acts.length c) => HC.out.addRow HBj.out (by rw [← h]; exact HR.out) (by omega) HG.out.tasks)
          obtain ⟨Au, cu, rfl⟩ := Kd.R_slice HR.out
          have HAD2 := Aside0.mk (HAD.out Au cu rfl)
          have HG2 := Aside0.mk (good_add HG.out (show acts.length ≤ 8796093022208 by omega))
          have HF2 := Aside0.mk (add_free HF.out.1 (show S.tasks.length < 64 by have := HF.out.2.1; omega) HA.out)
          obtain ⟨n, hn⟩ : ∃ n, acts.length = n := ⟨_, rfl⟩
          have hh : (j < L.length ∧ j = 200) ∨ L.length ≤ j := by
            rcases HM3.out with h | h
            · by_cases hq : j < L.length
              · exact .inl ⟨hq, h⟩
              · exact .inr (by omega)
            · exact .inr (by omega)
          rw [hn] at HAD2 hal HF2 ⊢
          have hnn := Aside0.mk hn
          clear HAD HKj hn
          rcases hh with ⟨d1, d2⟩ | d1
          · by_cases h0 : n = 0
            · have hb : (n == 0) = true := by simp [h0]
              have hbi : ((n : Int) == 0) = true := by simp [h0]
              have HF3 := Aside0.mk (show lefF (addF S acts) = a + n + 1 by have := HF2.out.2.1; have := HF.out.2.2.2.2; omega)
              clear h0
              go_wp2_with (go_at_call 10; refine HAD2.out.mono ?_; rintro e w5 ⟨rfl, pl5, pr5, h5⟩; have HC5 := Aside0.mk h5; clear h5)
              go_roundg k1
              case measure => omega
              case rel => exact ⟨i + 1, a + n + 1, _, _, _, by first | rfl | (congr 1; omega) | (simp; done), by first | rfl | (congr 1; omega) | (simp; done), hlt, by omega, HK1, HG2, ⟨HF2.out.1, by rw [HF2.out.2.2.2.2, HF.out.2.1], by rw [HF2.out.2.2.1]; exact HF.out.2.2.1, by rw [HF2.out.2.2.2.1]; exact HF.out.2.2.2.1, HF3.out⟩, HC5⟩
            · have hb : (n == 0) = false := by simp [h0]
              have hbi : ((n : Int) == 0) = false := by simp; omega
              have HF3 := Aside0.mk (show lefF (addF S acts) = a + n by have := HF2.out.2.1; have := HF.out.2.2.2.2; omega)
              clear h0
              go_wp2_with (go_at_call 10; refine HAD2.out.mono ?_; rintro e w5 ⟨rfl, pl5, pr5, h5⟩; have HC5 := Aside0.mk h5; clear h5)
              go_roundg k1
              case measure => omega
              case rel => exact ⟨i + 1, a + n, _, _, _, by first | rfl | (congr 1; omega) | (simp; done), by first | rfl | (congr 1; omega) | (simp; done), hlt, by omega, HK1, HG2, ⟨HF2.out.1, by rw [HF2.out.2.2.2.2, HF.out.2.1], by rw [HF2.out.2.2.1]; exact HF.out.2.2.1, by rw [HF2.out.2.2.2.1]; exact HF.out.2.2.2.1, HF3.out⟩, HC5⟩
          · by_cases h0 : n = 0
            · have hb : (n == 0) = true := by simp [h0]
              have hbi : ((n : Int) == 0) = true := by simp [h0]
              have HF3 := Aside0.mk (show lefF (addF S acts) = a + n + 1 by have := HF2.out.2.1; have := HF.out.2.2.2.2; omega)
              clear h0
              go_wp2_with (go_at_call 10; refine HAD2.out.mono ?_; rintro e w5 ⟨rfl, pl5, pr5, h5⟩; have HC5 := Aside0.mk h5; clear h5)
              go_roundg k1
              case measure => omega
              case rel => exact ⟨i + 1, a + n + 1, _, _, _, by first | rfl | (congr 1; omega) | (simp; done), by first | rfl | (congr 1; omega) | (simp; done), hlt, by omega, HK1, HG2, ⟨HF2.out.1, by rw [HF2.out.2.2.2.2, HF.out.2.1], by rw [HF2.out.2.2.1]; exact HF.out.2.2.1, by rw [HF2.out.2.2.2.1]; exact HF.out.2.2.2.1, HF3.out⟩, HC5⟩
            · have hb : (n == 0) = false := by simp [h0]
              have hbi : ((n : Int) == 0) = false := by simp; omega
              have HF3 := Aside0.mk (show lefF (addF S acts) = a + n by have := HF2.out.2.1; have := HF.out.2.2.2.2; omega)
              clear h0
              go_wp2_with (go_at_call 10; refine HAD2.out.mono ?_; rintro e w5 ⟨rfl, pl5, pr5, h5⟩; have HC5 := Aside0.mk h5; clear h5)
              go_roundg k1
              case measure => omega
              case rel => exact ⟨i + 1, a + n, _, _, _, by first | rfl | (congr 1; omega) | (simp; done), by first | rfl | (congr 1; omega) | (simp; done), hlt, by omega, HK1, HG2, ⟨HF2.out.1, by rw [HF2.out.2.2.2.2, HF.out.2.1], by rw [HF2.out.2.2.1]; exact HF.out.2.2.1, by rw [HF2.out.2.2.2.1]; exact HF.out.2.2.2.1, HF3.out⟩, HC5⟩
    · obtain rfl : i = N := by omega
      have hh : (i < xs.length ∧ i = 64) ∨ xs.length ≤ i := by
        rcases HN3.out with h | h
        · by_cases hq : i < xs.length
          · exact .inl ⟨hq, h⟩
          · exact .inr (by omega)
        · exact .inr (by omega)
      obtain ⟨r1, r2, r3, r4⟩ := end_free HF.out.1 (by rw [HF.out.2.2.2.1]; exact HPK.out) HF.out.2.2.1 (by have := HF.out.2.2.2.2; omega)
      have e5 := HF.out.2.2.2.2
      rw [e5] at r1 r2
      have hr1 := hC.lrun HG.out 1048576 (by omega)
      have ht := (good_run (1048576 : Int).toNat HG.out).tasks
      rw [r1] at hr1
      generalize runF (1048576 : Int).toNat S = T at hr1 r2 r3 r4 ht
      have HR1 := Aside0.mk hr1
      have hdn : ∀ (W : World) (h : Cu 0 gData w0 q pl3 pr3 T S W), Calls Try.prog 17 #[.pointer (some ⟨pl3, 0, none⟩)] W fun e w' => e = .returned (.bool true) ∧ Cu 0 gData w0 q pl3 pr3 T S w' := fun W h => by
        refine h.ldone.mono ?_
        rintro e w' ⟨rfl, m, rfl⟩
        exact ⟨by rw [r4], h.drewN m⟩
      have HDN := Aside0.mk hdn
      have hry : ∀ (W : World) (h : Cu 0 gData w0 q pl3 pr3 T S W), Calls Try.prog 15 #[.pointer (some ⟨pl3, 0, none⟩)] W fun e w' => ∃ A c, e = .returned (.slice A 0 c) ∧ Cu 0 gData w0 q pl3 pr3 T S w' := fun W h => by
        refine (h.lready ht).mono ?_
        rintro e w' ⟨v, rfl, hR, hb, hc⟩
        obtain ⟨A, c, rfl⟩ := Kd.R_slice hR
        rw [r3]
        exact ⟨A, c, rfl, hc⟩
      have HRY := Aside0.mk hry
      have hst : ∀ (W : World) (h : Cu 0 gData w0 q pl3 pr3 T S W), Calls Try.prog 18 #[.pointer (some ⟨pl3, 0, none⟩)] W fun e w' => e = .returned (.int .i64 a) ∧ W = w' := fun W h => by
        have := h.lsteps
        rw [r2] at this
        exact this
      have HST := Aside0.mk hst
      have y0 := hC.cells.1
      clear hr1 hdn hry hst r1 r2 r3 r4 ht e5 HK hC
      rcases hh with ⟨d1, d2⟩ | d1
      · go_wp2_with (first
          | (go_at_call 16; refine HR1.out.mono ?_; rintro e w5 ⟨rfl, h5⟩; have HC5 := Aside0.mk h5; have y5 := h5.cells.1; clear h5)
          | (go_at_call 17; refine (HDN.out w5 HC5.out).mono ?_; rintro e w6 ⟨rfl, h6⟩; have HC6 := Aside0.mk h6; have y6 := h6.cells.1; clear h6)
          | (go_at_call 15; refine (HRY.out w6 HC6.out).mono ?_; rintro e w7 ⟨A7, c7, rfl, h7⟩; have HC7 := Aside0.mk h7; have y7 := h7.cells.1; clear h7)
          | (go_at_call 18; refine (HST.out w7 HC7.out).mono ?_; rintro e w8 ⟨rfl, rfl⟩))
        go_ret
        exact ⟨rfl, below_step HB.out HC7.out.fin⟩
      · go_wp2_with (first
          | (go_at_call 16; refine HR1.out.mono ?_; rintro e w5 ⟨rfl, h5⟩; have HC5 := Aside0.mk h5; have y5 := h5.cells.1; clear h5)
          | (go_at_call 17; refine (HDN.out w5 HC5.out).mono ?_; rintro e w6 ⟨rfl, h6⟩; have HC6 := Aside0.mk h6; have y6 := h6.cells.1; clear h6)
          | (go_at_call 15; refine (HRY.out w6 HC6.out).mono ?_; rintro e w7 ⟨A7, c7, rfl, h7⟩; have HC7 := Aside0.mk h7; have y7 := h7.cells.1; clear h7)
          | (go_at_call 18; refine (HST.out w7 HC7.out).mono ?_; rintro e w8 ⟨rfl, rfl⟩))
        go_ret
        exact ⟨rfl, below_step HB.out HC7.out.fin⟩
theorem schedDone_any (A0 : Option Addr) (c0 : Nat) (l0 : List Int) (A1 : Option Addr) (c1 : Nat) (l1 : List Int) (A2 : Option Addr) (c2 : Nat) (l2 : List Int) (B : Option Addr) (cb : Nat) (xs : List (List (Int × Int))) (w : World) (h0 : Kd.C (Kd.int .i64) w A0 l0.length l0) (hc0 : l0.length ≤ c0) (h1 : Kd.C (Kd.int .i64) w A1 l1.length l1) (hc1 : l1.length ≤ c1) (h2 : Kd.C (Kd.int .u64) w A2 l2.length l2) (hc2 : l2.length ≤ c2) (hB : Kd.C kActs w B xs.length xs) :
    Calls Try.prog 4 #[.agg #[.slice A0 l0.length c0, .slice A1 l1.length c1, .slice A2 l2.length c2], .slice B xs.length cb] w fun e w' => e = .returned (.bool true) ∧ Below w.heap.size w w' := by
  by_cases hk : checkF l0 l1 l2 = 0
  · exact schedDone_calls A0 c0 l0 A1 c1 l1 A2 c2 l2 B cb xs w h0 hc0 h1 hc1 h2 hc2 hk hB
  · exact schedDoneNot_calls A0 c0 l0 A1 c1 l1 A2 c2 l2 B _ cb w h0 hc0 h1 hc1 h2 hc2 hk
end Go.Proofs.Ytompgphlinjglaa.P
