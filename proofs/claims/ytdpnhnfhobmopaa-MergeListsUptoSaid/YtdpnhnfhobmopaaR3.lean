/- merge.keys; slices.IndexFunc over merge.Visible's closure. -/
import Derived.Test.YtdpnhnfhobmopaaR2
namespace Go.Proofs.Ytdpnhnfhobmopaa.P
open Go.RowKit Go.Shelf Go.Proofs.YtdpnhnfhobmopaaW.PrintWords Go.Proofs.YtdpnhnfhobmopaaW.PrintLast Go.Proofs.YtdpnhnfhobmopaaW.PrintMore
set_option linter.unusedVariables false
set_option linter.unusedSimpArgs false

set_option maxRecDepth 100000 in
set_option maxHeartbeats 2000000 in
theorem keys_calls (A : Option Addr) (n c : Nat) (w : World) :
    Calls Try.prog 34 #[.slice A n c] w fun e w' => e = .returned (.func (.func 44) #[] #[.pointer (some ⟨w.heap.size, 0, none⟩)]) ∧ w' = w.alloc (.cells #[.slice A n c] 25) := by
  go_enter Try.func34, Try.ntmps34
  go_wp2
  go_ret
  exact ⟨rfl, rfl⟩
set_option maxRecDepth 100000 in
set_option maxHeartbeats 2000000 in
/-- merge.Visible's closure: is a cell's number at most the one that is captured? -/
theorem vis1_calls (x : S24) (q : Int) (B : Nat) (w : World) (hB : w.cell? ⟨B, 0, none⟩ = some (.int .u64 q)) :
    Calls Try.prog 36 #[.agg #[.string x.f0, .int .u64 x.f1, .string x.f2, .bool x.f3], .pointer (some ⟨B, 0, none⟩)] w fun e w' => e = .returned (.bool (decide (x.f1 ≤ q))) ∧ Below w.heap.size w w' := by
  have hlt : B < w.heap.size := World.block_lt_of_cell? w _ hB
  have hal : (w.alloc (.cells #[.string x.f0, .int .u64 x.f1, .string x.f2, .bool x.f3] 24)).cell? ⟨B, 0, none⟩ = some (.int .u64 q) := (World.cell?_alloc_old _ _ _ (Nat.ne_of_lt hlt)).trans hB
  go_enter Try.func36, Try.ntmps36
  go_wp2
  go_ret
  exact ⟨rfl, below_alloc (Below.refl _ _) _⟩
/-- The first cell whose number is at most q. -/
def idxFrom (q : Int) : List S24 → Nat → Int
  | [], _ => -1
  | x :: l, i => if x.f1 ≤ q then (i : Int) else idxFrom q l (i + 1)
set_option maxRecDepth 100000 in
set_option maxHeartbeats 4000000 in
theorem indexFunc_calls (A : Option Addr) (c : Nat) (l : List S24) (q : Int) (B : Nat) (w : World) (hC : Kd.C k24 w A l.length l) (hcap : l.length ≤ 1152921504606846976) (hB : w.cell? ⟨B, 0, none⟩ = some (.int .u64 q)) :
    Calls Try.prog 35 #[.slice A l.length c, .func (.func 36) #[] #[.pointer (some ⟨B, 0, none⟩)]] w fun e w' => e = .returned (.int .i64 (idxFrom q l 0)) ∧ Below w.heap.size w w' := by
  have HC := Aside0.mk hC
  clear hC
  go_enter Try.func35, Try.ntmps35
  go_wp2
  go_loopg [8] l.length (fun kq v8 w' => ∃ i : Nat, v8 = .int .i64 i ∧ i ≤ l.length ∧ Aside0 (kq = l.length - i) ∧ Aside0 (idxFrom q l 0 = idxFrom q (l.drop i) i) ∧ Aside0 (Below w.heap.size w w'))
  case atStart => exact ⟨0, rfl, Nat.zero_le _, ⟨rfl⟩, ⟨rfl⟩, ⟨Below.refl _ _⟩⟩
  case round =>
    obtain ⟨i, rfl, hi, HK, HE, HB⟩ := hrel
    by_cases hlt : i < l.length
    · obtain ⟨k1, rfl⟩ : ∃ k1, gk = k1 + 1 := ⟨gk - 1, by have := HK.out; omega⟩
      have HK1 := Aside0.mk (show k1 = l.length - (i + 1) by have := HK.out; omega)
      obtain ⟨ad, ea, x0, x1, x2, x3⟩ := at_T24 (Kd.C_below HC.out HB.out) (i : Int) (Int.natCast_nonneg _) (by omega)
      subst ea
      rw [Int.toNat_natCast] at x0 x1 x2 x3
      obtain ⟨x, hx⟩ : ∃ x, rd_T24 l (i : Int) = x := ⟨_, rfl⟩
      rw [hx] at x0 x1 x2 x3
      have hd : l.drop i = x :: l.drop (i + 1) := by rw [← hx, rd24_getElem l i hlt]; exact List.drop_eq_getElem_cons hlt
      have HD := Aside0.mk hd
      have hBw := below_cell HB.out hB
      clear hd hx
      by_cases hq : x.f1 ≤ q
      · have hq1 : decide (x.f1 ≤ q) = true := decide_eq_true hq
        go_wp2_with (go_at_call 36; refine (vis1_calls x q B _ hBw).mono ?_; rintro e w1 ⟨rfl, hb⟩; have HB1 := Aside0.mk (HB.out.trans (hb.mono HB.out.size)); clear hb)
        go_ret
        refine ⟨?_, HB1.out⟩
        rw [HE.out, HD.out]
        unfold idxFrom
        rw [if_pos hq]
        rfl
      · have hq1 : decide (x.f1 ≤ q) = false := decide_eq_false hq
        go_wp2_with (go_at_call 36; refine (vis1_calls x q B _ hBw).mono ?_; rintro e w1 ⟨rfl, hb⟩; have HB1 := Aside0.mk (HB.out.trans (hb.mono HB.out.size)); clear hb)
        go_roundg k1
        case measure => omega
        case rel =>
          refine ⟨i + 1, by first | rfl | (congr 1; omega) | (simp; done), by omega, HK1, ⟨?_⟩, HB1⟩
          rw [HE.out, HD.out]
          conv => lhs; unfold idxFrom
          rw [if_neg (by omega)]
    · obtain rfl : i = l.length := by omega
      go_wp2
      go_ret
      refine ⟨?_, HB.out⟩
      rw [HE.out, List.drop_eq_nil_of_le (Nat.le_refl _)]
      rfl
end Go.Proofs.Ytdpnhnfhobmopaa.P
