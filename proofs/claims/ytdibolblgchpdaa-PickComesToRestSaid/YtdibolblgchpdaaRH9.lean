/- Contracts proved by hand: slices.Grow of the nil slice, slices.Concat of two slices. -/
import Derived.Test.YtdibolblgchpdaaRH7
import Derived.Lib.AppendZerosOnto
namespace Go.Proofs.Ytdibolblgchpdaa.P
open Go.RowKit Go.Proofs.YtdibolblgchpdaaW.PrintWords Go.Proofs.YtdibolblgchpdaaW.PrintLast Go.Proofs.YtdibolblgchpdaaW.PrintMore
attribute [local go_sem] Oper.semAt_some
set_option linter.unusedVariables false
set_option linter.unusedSimpArgs false
theorem zc_size (z : Value) (n : Nat) : (Builtin.zeroCells z.cells n).size = n * z.cells.size := by simp [Builtin.zeroCells]
set_option maxHeartbeats 4000000 in
set_option maxRecDepth 100000 in
theorem grow_calls (n : Nat) (w : World) (h0 : 0 < n) (hbig : n * 56 ≤ 140737488355328) :
    Calls Try.prog 55 #[.slice none 0 0, .int .i64 n] w fun e w' => ∃ v, e = .returned v ∧ Kd.R k44 44 w' w.heap.size (fun _ => True) v [] ∧ Below w.heap.size w w' := by
  have h1 : ¬ ((n : Int) < 0) := by omega
  have h4 : (n : Int) > 0 := by omega
  obtain ⟨i0, hi, hzz⟩ := Option.map_eq_some_iff.1 info44
  simp only [Prod.mk.injEq] at hzz
  obtain ⟨hz0, hz1, hz2⟩ := hzz
  have hrz : ∀ ty, (Builtin.append_ #[42, 3] ty #[.slice none 0 0, .int .i64 (n : Int)]).run Try.prog w =
      .ok (.slice (some ⟨w.heap.size, 0, none⟩) n (grownCap w n 0 44)) (w.drew.alloc (.cells (#[] ++ Builtin.zeroCells (Value.agg #[.int .i64 0, .int .i64 0, .int .i64 0, .string ⟨#[]⟩, .string ⟨#[]⟩]).cells n ++ Builtin.zeroCells (Value.agg #[.int .i64 0, .int .i64 0, .int .i64 0, .string ⟨#[]⟩, .string ⟨#[]⟩]).cells (grownCap w n 0 44 - n)) 44)) := fun ty => by
    have h := Lib.run_append_grow_zeros w 42 3 ty 44 i0 _ .i64 .i64 Try.underlying42 Try.underlying3 hi hz0 none 0 0 [] (run_firstCells_none w.drew i0.size 0 0 0) n h0 (by omega) (by omega) (by omega) (by rw [hz2]; omega)
      (by rw [hz2, Nat.zero_add]; exact growslice_fits h0 hbig)
    rw [Nat.zero_add] at h
    exact h
  have hGn : n ≤ grownCap w n 0 44 := grownCap_ge w _ _ _
  have hG2 : grownCap w n 0 44 ≤ maxLen := grownCap_le_maxLen w n 0 44 (by unfold maxLen; omega)
  obtain ⟨G, hG⟩ : ∃ G, G = grownCap w n 0 44 := ⟨_, rfl⟩
  rw [← hG] at hrz hGn hG2
  have hG63 : G ≤ 9223372036854775807 := by unfold maxLen at hG2; omega
  have hsz : (#[] ++ Builtin.zeroCells (Value.agg #[.int .i64 0, .int .i64 0, .int .i64 0, .string ⟨#[]⟩, .string ⟨#[]⟩]).cells n ++ Builtin.zeroCells (Value.agg #[.int .i64 0, .int .i64 0, .int .i64 0, .string ⟨#[]⟩, .string ⟨#[]⟩]).cells (G - n)).size = G * 5 := by
    rw [Array.size_append, Array.size_append, zc_size, zc_size]
    show 0 + n * 5 + (G - n) * 5 = G * 5
    omega
  obtain ⟨cs, hcs⟩ : ∃ cs, #[] ++ Builtin.zeroCells (Value.agg #[.int .i64 0, .int .i64 0, .int .i64 0, .string ⟨#[]⟩, .string ⟨#[]⟩]).cells n ++ Builtin.zeroCells (Value.agg #[.int .i64 0, .int .i64 0, .int .i64 0, .string ⟨#[]⟩, .string ⟨#[]⟩]).cells (G - n) = cs := ⟨_, rfl⟩
  rw [hcs] at hrz hsz
  clear hG hcs hi hz0 hz1 hz2 hbig
  have HF := Aside0.mk (show ∃ v, Ending.returned (.slice (some ⟨w.heap.size, 0, none⟩) 0 G) = .returned v ∧ Kd.R k44 44 (w.drew.alloc (.cells cs 44)) w.heap.size (fun _ => True) v [] ∧ Below w.heap.size w (w.drew.alloc (.cells cs 44)) from
    ⟨_, rfl, ⟨fun _ _ => trivial, [], ⟨rfl, .inr ⟨w.heap.size, G, cs, rfl, Nat.le_refl _, World.alloc_heap_new w.drew _, Nat.zero_le _, hG2, hsz, by simp⟩⟩, Reps.none _ _⟩, below_alloc (Below.refl _ _).drew _⟩)
  clear hG2 hsz
  go_enter Try.func55, Try.ntmps55
  go_wp2_with (at_builtin; refine Lib.wpList_append_run _ rfl _ _ _ _ rfl _ _ rfl rfl _ _ (hrz _) ?_)
  all_goals (go_ret; exact HF.out)
theorem flat_step (ls : List (List S44)) (i : Nat) (h : i < ls.length) : (ls.take (i + 1)).flatten = (ls.take i).flatten ++ rd_L3 ls (i : Int) := by
  have e : rd_L3 ls (i : Int) = ls[i] := by simp only [rd_L3, Int.toNat_natCast]; simp [h]
  rw [e, List.take_add_one, List.getElem?_eq_getElem h, List.flatten_append]
  simp
theorem flat_le (ls : List (List S44)) (i : Nat) : ((ls.take i).flatten).length ≤ ls.flatten.length := by
  conv => rhs; rw [← List.take_append_drop i ls, List.flatten_append, List.length_append]
  omega
set_option maxHeartbeats 4000000 in
set_option maxRecDepth 100000 in
theorem concat_calls (A : Option Addr) (c : Nat) (ls : List (List S44)) (w : World) (hC : Kd.C (Kd.slice 44 k44) w A ls.length ls) (hpos : 0 < ls.flatten.length) (hbig : ls.flatten.length * 56 ≤ 140737488355328) :
    Calls Try.prog 36 #[.slice A ls.length c] w fun e w' => ∃ v, e = .returned v ∧ Kd.R k44 44 w' w.heap.size (fun _ => True) v ls.flatten ∧ Below w.heap.size w w' := by
  have HBIG := Aside0.mk hbig
  have HPOS := Aside0.mk hpos
  have HC := Aside0.mk hC
  have hlen : ls.length ≤ 9223372036854775807 := hC.2.1
  clear hC hbig hpos
  go_enter Try.func36, Try.ntmps36
  go_wp2
  go_loopg [3, 11] ls.length (fun kq v3 v11 w' => ∃ (i s : Nat), v3 = .int .i64 s ∧ v11 = .int .i64 i ∧ i ≤ ls.length ∧ s ≤ 2513169434916 ∧ Aside0 (s = ((ls.take i).flatten).length) ∧ Aside0 (kq = ls.length - i) ∧ Aside0 (Below w.heap.size w w'))
  case atStart => exact ⟨0, 0, rfl, rfl, Nat.zero_le _, by omega, ⟨by simp⟩, ⟨rfl⟩, ⟨Below.refl _ _⟩⟩
  case round =>
    obtain ⟨i, s, rfl, rfl, hi, hs, HS, HK, HB⟩ := hrel
    by_cases hlt : i < ls.length
    · obtain ⟨k1, rfl⟩ : ∃ k1, gk = k1 + 1 := ⟨gk - 1, by have := HK.out; omega⟩
      have HK1 := Aside0.mk (show k1 = ls.length - (i + 1) by have := HK.out; omega)
      obtain ⟨ad, A1, c1, ea, x0, hl1, hi1⟩ := at_L3 (Kd.C_below HC.out HB.out) (i : Int) (Int.natCast_nonneg _) (by omega)
      subst ea
      rw [Int.toNat_natCast] at x0
      have HF := Aside0.mk (flat_step ls i hlt)
      have hs2 : s + (rd_L3 ls (i : Int)).length ≤ 2513169434916 := by
        have h1 := flat_le ls (i + 1)
        rw [HF.out, List.length_append, ← HS.out] at h1
        have := HBIG.out
        omega
      have HS1 := Aside0.mk (show s + (rd_L3 ls (i : Int)).length = ((ls.take (i + 1)).flatten).length by rw [HF.out, List.length_append, ← HS.out])
      clear hi1 hl1
      obtain ⟨m, hm⟩ : ∃ m, (rd_L3 ls (i : Int)).length = m := ⟨_, rfl⟩
      rw [hm] at x0 hs2 HS1
      clear hm
      have hneg : ¬ ((s : Int) + (m : Int) < 0) := by omega
      go_wp2
      go_roundg k1
      case measure => omega
      case rel => exact ⟨i + 1, s + m, by first | rfl | (congr 1; omega) | (simp; done), by first | rfl | (congr 1; omega) | (simp; done), by omega, hs2, HS1, HK1, HB⟩
    · obtain rfl : i = ls.length := by omega
      rw [List.take_length] at HS
      have h0 : 0 < s := by rw [HS.out]; exact HPOS.out
      go_wp2_with (go_at_call 55; refine (grow_calls s _ h0 (by omega)).mono ?_; rintro e w1 ⟨v1, rfl, hR, hb⟩; have HR1 := Aside0.mk (Kd.R_lower hR HB.out.size); have HB1 := Aside0.mk (HB.out.trans (hb.mono HB.out.size)); clear hR hb)
      go_loopg [6, 27] ls.length (fun kq v6 v27 w' => ∃ (i : Nat) (u : Value), u = v6 ∧ v27 = .int .i64 i ∧ i ≤ ls.length ∧ Aside0 (kq = ls.length - i) ∧ Aside0 (Kd.R k44 44 w' w.heap.size (fun _ => True) u (ls.take i).flatten) ∧ Aside0 (Below w.heap.size w w'))
      case atStart => exact ⟨0, v1, rfl, rfl, Nat.zero_le _, ⟨rfl⟩, ⟨by simpa using HR1.out⟩, HB1⟩
      case round =>
        clear HB HR1 HB1
        obtain ⟨i, v6, rfl, rfl, hi, HK, HR, HB⟩ := hrel
        by_cases hlt : i < ls.length
        · obtain ⟨k1, rfl⟩ : ∃ k1, gk = k1 + 1 := ⟨gk - 1, by have := HK.out; omega⟩
          have HK1 := Aside0.mk (show k1 = ls.length - (i + 1) by have := HK.out; omega)
          obtain ⟨ad, A1, c1, ea, x0, hl1, hi1⟩ := at_L3 (Kd.C_below HC.out HB.out) (i : Int) (Int.natCast_nonneg _) (by omega)
          subst ea
          rw [Int.toNat_natCast] at x0
          have HF := Aside0.mk (flat_step ls i hlt)
          have HA1 := Aside0.mk hi1
          have HLL := Aside0.mk (show (((ls.take i).flatten).length + (rd_L3 ls (i : Int)).length) * 56 ≤ 140737488355328 by
            have h1 := flat_le ls (i + 1)
            rw [HF.out, List.length_append] at h1
            have := HBIG.out
            omega)
          clear hi1 hl1
          go_wp2_with ((with_reducible refine gate_builtin (b := .append) (xs := #[.tmp 31, .tmp 32]) rfl ?_); at_builtin; refine Kd.R_append_rows k44 (w0 := w) w.heap.size rfl (.tmp 31) (.tmp 32) 42 44 (.agg #[(.int .i64 0), (.int .i64 0), (.int .i64 0), (.string ⟨#[]⟩), (.string ⟨#[]⟩)]) 56 rfl Try.underlying42 info44 rfl (by decide) (by omega) v6 (ls.take i).flatten (rd_L3 ls (i : Int)) _ _ _ (fun _ => True) (fun _ => False) rfl rfl ?aO ?aR (fun _ _ h => h) (fun _ h => h.elim) ?aF ?aB ?aS ?aL ?_; (case aR => exact HA1.out); (case aB => exact HB.out); (case aF => exact (fun _ _ => trivial)); (case aO => exact HR.out); (case aS => exact HB.out.size); (case aL => exact HLL.out); intro v7 w7 ho hb hg hat; have HB7 := Aside0.mk hb; rw [← HF.out] at ho; have HR7 := Aside0.mk ho; clear ho hb hg hat)
          go_roundg k1
          case measure => omega
          case rel => exact ⟨i + 1, v7, rfl, by first | rfl | (congr 1; omega) | (simp; done), by omega, HK1, HR7, HB7⟩
        · obtain rfl : i = ls.length := by omega
          go_wp2
          go_ret
          refine ⟨_, rfl, ?_, HB.out⟩
          have := HR.out
          rw [List.take_length] at this
          exact this
end Go.Proofs.Ytdibolblgchpdaa.P
