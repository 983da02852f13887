/- filter.places: the closure that hands a key's places out, and its contract as an iterator. -/
import Derived.Test.YtifoofgdfaaaoaaM
import Derived.RangeFuncNested
import Derived.RangeFuncBound
import Derived.RangeFuncCalls
import Derived.RangeFuncLeaves
import Derived.RangeFuncFrom
import Derived.Shelf.Abstract
import Derived.Shelf.RegionOpen
import Derived.WalkKit
import Derived.OwnWalkIn
import Derived.TacticsInMore
import Derived.LoopNIn
import Derived.LoopIn
namespace Go.Proofs.Ytifoofgdfaaaoaa.P
open Go.RowKit Go.Shelf Go.Proofs.YtifoofgdfaaaoaaW.PrintWords Go.Proofs.YtifoofgdfaaaoaaW.PrintLast Go.Proofs.YtifoofgdfaaaoaaW.PrintMore
attribute [local go_sem] Oper.semAt_some
set_option linter.unusedVariables false
set_option linter.unusedSimpArgs false

theorem cell_new' (W : World) (v : Value) (t : TypeId) : (W.alloc (.cells #[v] t)).cell? ⟨W.heap.size, 0, none⟩ = some v := by
  have h := World.alloc_heap_new W (.cells #[v] t)
  unfold World.cell?
  rw [h]
  rfl
theorem cell_new_at {W : World} {b : Nat} (hb : b = W.heap.size) (v : Value) (t : TypeId) : (W.alloc (.cells #[v] t)).cell? ⟨b, 0, none⟩ = some v := by subst hb; exact cell_new' W v t
theorem cell_old {W : World} {a : Addr} {v : Value} (o : Obj) (h : W.cell? a = some v) : (W.alloc o).cell? a = some v := cell_kept h (World.grownBy_alloc W o none) (fun r e => by cases e)
theorem frozen_new' (W : World) (v : Value) (t : TypeId) : (W.alloc (.cells #[v] t)).frozen? ⟨W.heap.size, 0, none⟩ = false := by
  have h := World.alloc_heap_new W (.cells #[v] t)
  unfold World.frozen?
  rw [h]
  rfl
theorem frozen_new_at {W : World} {b : Nat} (hb : b = W.heap.size) (v : Value) (t : TypeId) : (W.alloc (.cells #[v] t)).frozen? ⟨b, 0, none⟩ = false := by subst hb; exact frozen_new' W v t
theorem frozen_old {W : World} {a : Addr} {v : Value} (o : Obj) (h : W.cell? a = some v) (hf : W.frozen? a = false) : (W.alloc o).frozen? a = false := (frozen_kept h (World.grownBy_alloc W o none) (fun r e => by cases e)).trans hf
theorem frozen_drewN' {W : World} {a : Addr} (n : Nat) (h : W.frozen? a = false) : (W.drewN n).frozen? a = false := by simpa using h
theorem cell_drewN' {W : World} {a : Addr} {v : Value} (n : Nat) (h : W.cell? a = some v) : (W.drewN n).cell? a = some v := by simpa using h
/-- The blocks from lo to hi lie as they lay. -/
def KeepIn (lo hi : Nat) (W W' : World) : Prop := ∀ k, lo ≤ k → k < hi → W'.heap[k]? = W.heap[k]?
theorem KeepIn.refl (lo hi : Nat) (W : World) : KeepIn lo hi W W := fun _ _ _ => rfl
theorem KeepIn.trans {lo hi : Nat} {A B C : World} (h : KeepIn lo hi A B) (k : KeepIn lo hi B C) : KeepIn lo hi A C := fun i h1 h2 => (k i h1 h2).trans (h i h1 h2)
theorem KeepIn.cell {lo hi : Nat} {A B : World} (h : KeepIn lo hi A B) {a : Addr} (h1 : lo ≤ a.block) (h2 : a.block < hi) : B.cell? a = A.cell? a := World.cell?_of_block (h a.block h1 h2)
theorem KeepIn.of_below {lo hi n : Nat} {A B : World} (h : Below n A B) (hn : hi ≤ n) : KeepIn lo hi A B := fun k _ hk => h.block k (by omega)
theorem KeepIn.setCell (lo hi : Nat) (W : World) (p : Addr) (hp : p.block < lo ∨ hi ≤ p.block) (u : Value) : KeepIn lo hi W (W.setCell p u) := fun k h1 h2 => Below.heap_setCell W p u k (by omega)
theorem keepIn_t {lo hi : Nat} {A B C : World} (h : KeepIn lo hi A B) (k : KeepIn lo hi B C) : KeepIn lo hi A C := h.trans k
theorem keepIn_b {lo hi : Nat} {w : World} (hn : hi ≤ w.heap.size) (W : World) (l : Nat) (o o' : Obj) (hl : w.heap.size ≤ l) (h : W.heap[l]? = some o) (_ : o.isCells = false) (_ : o.isWalk = false) : KeepIn lo hi W (W.putObj l o') :=
  fun k _ h2 => World.putObj_heap_other (by omega)
theorem range_snoc (k : Nat) : List.range (k + 1) = List.range k ++ [k] := List.range_succ
set_option maxRecDepth 100000 in
set_option maxHeartbeats 2000000 in
theorem pl1_in (F : Fence) (n : Nat) (h25 : F.fn 25) (hro : F.round = none) (hn : 1 ≤ n) (l BK BH BD BM lo hi : Nat) (k : Nat) (hk30 : k ≤ 1000) (h d m : Int) (hm : 0 < m) (hm2 : m < 18446744073709551616) (hh : 0 ≤ h) (hh2 : h < 18446744073709551616) (hd : 0 ≤ d) (hd2 : d < 18446744073709551616) (J Jx : List Nat → World → Prop)
    (hY : ∀ pre x W, J pre W → pre.length < k → YieldAt F (n - 1) Try.prog l #[.int .u64 (placeAt h d m x)] W fun e W' =>
      (e = .returned (.bool true) ∧ J (pre ++ [x]) W' ∧ KeepIn lo hi W W') ∨ (e = .returned (.bool false) ∧ Jx (pre ++ [x]) W'))
    (W : World) (bK : lo ≤ BK ∧ BK < hi) (bH : lo ≤ BH ∧ BH < hi) (bD : lo ≤ BD ∧ BD < hi) (bM : lo ≤ BM ∧ BM < hi)
    (cK : W.cell? ⟨BK, 0, none⟩ = some (.int .i64 k)) (cH : W.cell? ⟨BH, 0, none⟩ = some (.int .u64 h)) (cD : W.cell? ⟨BD, 0, none⟩ = some (.int .u64 d)) (cM : W.cell? ⟨BM, 0, none⟩ = some (.int .u64 m))
    (h0 : J [] W) :
    CallsIn F n Try.prog 25 #[.func (.yield l) #[] #[], .pointer (some ⟨BK, 0, none⟩), .pointer (some ⟨BH, 0, none⟩), .pointer (some ⟨BD, 0, none⟩), .pointer (some ⟨BM, 0, none⟩)] W fun e W' => (∃ v, e = .returned v) ∧
      ((∃ ys, ys = List.range k ∧ J ys W') ∨ (∃ pre, pre <+: List.range k ∧ Jx pre W')) := by
  refine callsIn_of_wp Try.func25 rfl h25 ?_ hro
  simp only [Try.ntmps25, List.size_toArray, List.length_cons, List.length_nil, Nat.reduceAdd, Nat.reduceSub, Array.replicate_succ, Array.replicate_zero, List.push_toArray, List.append_toArray, List.nil_append, List.cons_append]
  have HW : KeepIn lo hi W W := KeepIn.refl _ _ _
  gi_wp2
  gi_loopw [8] (fun i wr => ∃ j : Nat, j ≤ k ∧ i = .int .i64 j ∧ J (List.range j) wr ∧ KeepIn lo hi W wr)
    (fun i _ => k - (intOf i).toNat)
  case atStart => exact ⟨0, Nat.zero_le _, rfl, h0, HW⟩
  case round =>
    obtain ⟨j, hj, rfl, hJs, hB⟩ := hrel
    have cH' : wr.cell? ⟨BH, 0, none⟩ = some (.int .u64 h) := (hB.cell (a := ⟨BH, 0, none⟩) bH.1 bH.2).trans cH
    have cD' : wr.cell? ⟨BD, 0, none⟩ = some (.int .u64 d) := (hB.cell (a := ⟨BD, 0, none⟩) bD.1 bD.2).trans cD
    have cM' : wr.cell? ⟨BM, 0, none⟩ = some (.int .u64 m) := (hB.cell (a := ⟨BM, 0, none⟩) bM.1 bM.2).trans cM
    by_cases hlt : j < k
    · obtain ⟨fn, tmps, assign, body, hy, hR⟩ := hY (List.range j) j wr hJs (by simpa using hlt)
      clear cH cD cM
      have hq : (IntKind.u64.wrap (h + IntKind.u64.wrap ((j : Int) * d))).tmod m = placeAt h d m j := by
        rw [Int.tmod_eq_emod_of_nonneg (by rw [wrapI_u64]; omega)]; rfl
      gi_wp2
      refine hR.mono ?_
      rintro e W3 (⟨rfl, hJ3, hk3⟩ | ⟨rfl, hJx3⟩)
      · gi_wp2
        go_roundw
        case rel => exact ⟨j + 1, by omega, by go_num, by rw [range_snoc]; exact hJ3, hB.trans hk3⟩
        case measure => simp [intOf]; omega
      · gi_wp2
        refine bodyPost_ret (results_none rfl _ _ _) rfl ?_
        refine ⟨⟨_, rfl⟩, .inr ⟨List.range j ++ [j], ?_, hJx3⟩⟩
        rw [← range_snoc]
        exact ⟨List.drop (j + 1) (List.range k), by rw [show List.range (j + 1) = (List.range k).take (j + 1) from by rw [List.take_range, Nat.min_eq_left (by omega)], List.take_append_drop]⟩
    · obtain rfl : j = k := by omega
      gi_wp2
      go_end0
      exact ⟨⟨_, rfl⟩, .inl ⟨_, rfl, hJs⟩⟩

/-- What filter.places leaves: its four variables in memory. -/
structure PlacesAt (w w' : World) (s : ByteArray) (m : Int) (k : Nat) : Prop where
  below : Below w.heap.size w w'
  size : w.heap.size + 4 ≤ w'.heap.size
  cM : w'.cell? ⟨w.heap.size, 0, none⟩ = some (.int .u64 m)
  cK : w'.cell? ⟨w.heap.size + 1, 0, none⟩ = some (.int .i64 k)
  cH : w'.cell? ⟨w.heap.size + 2, 0, none⟩ = some (.int .u64 (hOf s))
  cD : w'.cell? ⟨w.heap.size + 3, 0, none⟩ = some (.int .u64 (dOf s))
set_option maxRecDepth 100000 in
set_option maxHeartbeats 2000000 in
theorem places_calls (s : ByteArray) (hs : s.size ≤ 140737488351232) (m : Int) (k : Nat) (w : World) :
    Calls Try.prog 19 #[.string s, .int .u64 m, .int .i64 k] w fun e w' =>
      e = .returned (.func (.func 25) #[] #[.pointer (some ⟨w.heap.size + 1, 0, none⟩), .pointer (some ⟨w.heap.size + 2, 0, none⟩), .pointer (some ⟨w.heap.size + 3, 0, none⟩), .pointer (some ⟨w.heap.size, 0, none⟩)]) ∧ PlacesAt w w' s m k := by
  have hc := crcOf_bd s
  have hcrc := fun w => codec_Crc.calls (1 + 10 * s.size) s (crcOf s) w (crc_impl s (by omega))
  have hmix1 := fun w => sched_Mix.calls (IntKind.u64.wrap (crcOf s + IntKind.u64.wrap ((s.size : Int) * 4294967296))) (hOf s) w rfl
  have hmix2 := fun w => sched_Mix.calls (hOf s) (mixOf (hOf s)) w rfl
  have HCRC := Aside0.mk hcrc
  have HM1 := Aside0.mk hmix1
  have HM2 := Aside0.mk hmix2
  clear hcrc hmix1 hmix2
  obtain ⟨c, hcq⟩ : ∃ c, crcOf s = c := ⟨_, rfl⟩
  rw [hcq] at hc HCRC HM1
  clear hcq
  obtain ⟨h, hh⟩ : ∃ h, hOf s = h := ⟨_, rfl⟩
  have HH := Aside0.mk hh
  obtain ⟨d, hd⟩ : ∃ d, dOf s = d := ⟨_, rfl⟩
  have HD := Aside0.mk hd
  have hd2 : bits .or .u64 (mixOf h) 1 = d := by rw [← hh]; exact hd
  obtain ⟨g, hg⟩ : ∃ g, mixOf h = g := ⟨_, rfl⟩
  rw [hh] at HM1 HM2
  rw [hg] at HM2 hd2
  clear hh hd hg
  go_enter Try.func19, Try.ntmps19
  go_wp2_with (first | (go_at_call 24; refine (HCRC.out _).mono ?_; rintro e w' ⟨rfl, ⟨nd, rfl⟩⟩) | (go_at_call 23; refine (HM1.out _).mono ?_; rintro e w' ⟨rfl, ⟨nd1, rfl⟩⟩; clear HM1) | (go_at_call 23; refine (HM2.out _).mono ?_; rintro e w' ⟨rfl, ⟨nd2, rfl⟩⟩))
  go_ret
  refine ⟨rfl, ⟨?_, ?_, ?_, ?_, ?_, ?_⟩⟩
  · refine below_alloc ?_ _
    refine pw_below_drewN ?_ _
    refine below_alloc ?_ _
    refine pw_below_drewN ?_ _
    exact below_alloc (below_alloc (Below.refl _ _) _) _
  · simp
  · exact cell_old _ (cell_drewN' _ (cell_old _ (cell_drewN' _ (cell_old _ (cell_new' _ _ _)))))
  · exact cell_old _ (cell_drewN' _ (cell_old _ (cell_drewN' _ (cell_new_at (by simp) _ _))))
  · rw [HH.out]; exact cell_old _ (cell_drewN' _ (cell_new_at (by simp) _ _))
  · rw [HD.out]; exact cell_new_at (by simp) _ _
theorem places_stops (n : Nat) (hn : 1 ≤ n) (B lo hi : Nat) (k : Nat) (hk30 : k ≤ 1000) (s : ByteArray) (m : Int) (hm : 0 < m) (hm2 : m < 18446744073709551616) (w : World) (hlo : lo ≤ B) (hB : B + 4 ≤ hi) (hhi : hi ≤ w.heap.size)
    (cM : w.cell? ⟨B, 0, none⟩ = some (.int .u64 m)) (cK : w.cell? ⟨B + 1, 0, none⟩ = some (.int .i64 k)) (cH : w.cell? ⟨B + 2, 0, none⟩ = some (.int .u64 (hOf s))) (cD : w.cell? ⟨B + 3, 0, none⟩ = some (.int .u64 (dOf s))) :
    SeqStopsK Fence.wide n Try.prog 25 #[.pointer (some ⟨B + 1, 0, none⟩), .pointer (some ⟨B + 2, 0, none⟩), .pointer (some ⟨B + 3, 0, none⟩), .pointer (some ⟨B, 0, none⟩)] (fun i : Nat => #[Value.int .u64 (placeAt (hOf s) (dOf s) m i)]) (KeepIn lo hi) (fun ys => ys = List.range k) (fun pre => pre <+: List.range k) k w := fun l J Jx W hW _ _ hY h0 =>
  pl1_in Fence.wide n trivial rfl hn l (B + 1) (B + 2) (B + 3) B lo hi k hk30 (hOf s) (dOf s) m hm hm2 (hOf_bd s).1 (hOf_bd s).2 (dOf_bd s).1 (dOf_bd s).2 J Jx hY W (by omega) (by omega) (by omega) (by omega)
    ((hW.cell (p := ⟨B + 1, 0, none⟩) (show B + 1 < _ by omega)).trans cK) ((hW.cell (p := ⟨B + 2, 0, none⟩) (show B + 2 < _ by omega)).trans cH) ((hW.cell (p := ⟨B + 3, 0, none⟩) (show B + 3 < _ by omega)).trans cD) ((hW.cell (p := ⟨B, 0, none⟩) (show B < _ by omega)).trans cM) h0
end Go.Proofs.Ytifoofgdfaaaoaa.P
