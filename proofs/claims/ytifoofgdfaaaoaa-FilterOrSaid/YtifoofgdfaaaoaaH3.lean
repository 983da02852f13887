/- filter.May by hand. -/
import Derived.Test.YtifoofgdfaaaoaaH2
namespace Go.Proofs.Ytifoofgdfaaaoaa.P
open Go.RowKit Go.Shelf Go.Proofs.YtifoofgdfaaaoaaW.PrintWords Go.Proofs.YtifoofgdfaaaoaaW.PrintLast Go.Proofs.YtifoofgdfaaaoaaW.PrintMore
attribute [local go_sem] Oper.semAt_some
set_option linter.unusedVariables false
set_option linter.unusedSimpArgs false

theorem check_zero {l0 : List Int} (h : filter_Check.f l0 = some 0) (hl : l0.length ≤ 140737488355328) : ∃ m k : Nat, l0.length = m + 1 ∧ 8 ≤ m ∧ rd l0 (m : Int) = (k : Int) ∧ 1 ≤ k ∧ k ≤ 30 := by
  unfold filter_Check.f at h
  split at h
  · cases h
  · rename_i h9
    have e : wrap64 ((l0.length : Int) - 1) = (l0.length : Int) - 1 := by unfold wrap64; omega
    rw [e, if_pos (by omega), if_pos (by omega)] at h
    split at h
    · cases h
    · split at h
      · cases h
      · rename_i h1 h30
        obtain ⟨m, hm⟩ : ∃ m, l0.length = m + 1 := ⟨l0.length - 1, by omega⟩
        have em : (l0.length : Int) - 1 = (m : Int) := by omega
        rw [em] at h1 h30
        exact ⟨m, (rd l0 (m : Int)).toNat, hm, by omega, by omega, by omega, by omega⟩
set_option maxHeartbeats 4000000 in
set_option maxRecDepth 100000 in
theorem may_core (A0 : Option Addr) (c0 : Nat) (l0 : List Int) (m k : Nat) (hl : l0.length = m + 1) (hm8 : 8 ≤ m) (hm : m < 140737488355328) (key : ByteArray) (hkey : key.size ≤ 140737488351232) (hk : rd l0 (m : Int) = (k : Int)) (hk1 : 1 ≤ k) (hk30 : k ≤ 30)
    (w : World) (hr0 : Kd.C (Kd.int .u8) w A0 (m + 1) l0) (hc0 : m + 1 ≤ c0) (hch : filter_Check.f l0 = some 0) :
    Calls Try.prog 11 #[.slice A0 (m + 1) c0, .string key] w fun e w' => e = .returned (.bool (mayOf l0 key)) ∧ Below w.heap.size w w' := by
  have hchk : ∀ w, Kd.C (Kd.int .u8) w A0 (m + 1) l0 → Calls Try.prog 15 #[.slice A0 (m + 1) c0] w fun e w' => e = .returned (.int .i64 0) ∧ Drawn0 w w' := by
    intro w hr
    have := filter_Check.calls A0 c0 l0 0 w (by rw [hl]; exact hr) (by rw [hl]; exact hc0) hch
    rwa [hl] at this
  have HP := Aside0.mk (fun w => places_calls key hkey ((m : Int) * 8) k w)
  obtain ⟨ad, ea, hx⟩ := Kd.at_int hr0 (m : Int) (by omega) (by omega)
  have HR0 := Aside0.mk hr0
  have HL := Aside0.mk hl
  have HCK := Aside0.mk hchk
  have HK := Aside0.mk hk
  have HKEY := Aside0.mk hkey
  subst ea
  rw [Int.toNat_natCast, hk] at hx
  clear hr0 hch hl hchk hk hkey
  have hx2 : ((w.alloc (.cells #[.slice (some ad) (m + 1) c0] 24)).alloc (.cells #[.bool false] 4)).cell? (ad.add m) = some (.int .u8 k) := cell_old _ (cell_old _ hx)
  refine (callsIn_wide (n := 9)).1 ?_
  refine callsIn_of_wp_marks Try.func11 rfl trivial ?_ rfl
  simp only [Try.ntmps11, List.size_toArray, List.length_cons, List.length_nil, Nat.reduceAdd, Nat.reduceSub, Array.replicate_succ, Array.replicate_zero, List.push_toArray, List.append_toArray, List.nil_append, List.cons_append]
  gi_wp2_with (first | (refine ⟨trivial, ?_⟩; gi_at_call 15; refine (callsIn_wide.2 (HCK.out _ (by repeat (first | exact HR0.out | (with_reducible refine Kd.C_alloc ?_ _))))).mono ?_; rintro e w' ⟨rfl, ⟨nd, rfl⟩⟩) | (refine ⟨trivial, ?_⟩; gi_at_call 19; refine (callsIn_wide.2 (HP.out _)).mono ?_; rintro e w1 ⟨rfl, hpl⟩))
  have HPL := Aside0.mk hpl
  clear hpl HP HCK hx2
  have hsz : w1.heap.size ≥ w.heap.size + 6 := by have := HPL.out.size; simp at this; omega
  have hB1 : Below w.heap.size w w1 := (below_alloc (below_alloc (Below.refl _ _) _) _).trans ((pw_below_drewN (Below.refl _ _) nd).trans (HPL.out.below.mono (by simp; omega)))
  have c24 : w1.cell? ⟨w.heap.size, 0, none⟩ = some (.slice (some ad) (m + 1) c0) := (HPL.out.below.cell (p := ⟨w.heap.size, 0, none⟩) (by simp; omega)).trans (cell_drewN' _ (cell_old _ (cell_new' _ _ _)))
  have c4 : w1.cell? ⟨w.heap.size + 1, 0, none⟩ = some (.bool false) := (HPL.out.below.cell (p := ⟨w.heap.size + 1, 0, none⟩) (by simp)).trans (cell_drewN' _ (cell_new_at (by simp) _ _))
  have f4 : w1.frozen? ⟨w.heap.size + 1, 0, none⟩ = false := (HPL.out.below.frozen (p := ⟨w.heap.size + 1, 0, none⟩) (by simp)).trans (frozen_drewN' _ (frozen_new_at (by simp) _ _))
  have hst := places_stops (9 - 1) (by omega) (w.heap.size + 1 + 1) (w.heap.size + 1 + 1) (w.heap.size + 6) k (by omega) key ((m : Int) * 8) (by omega) (by omega) w1 (by omega) (by omega) (by omega) (by have := HPL.out.cM; simpa using this) (by have := HPL.out.cK; simpa using this) (by have := HPL.out.cH; simpa using this) (by have := HPL.out.cD; simpa using this)
  refine wpIn_rangeFunc_ownF rfl (by omega) (gf := 25) (lb := #[.pointer (some ⟨w.heap.size + 1 + 1 + 1, 0, none⟩), .pointer (some ⟨w.heap.size + 1 + 1 + 2, 0, none⟩), .pointer (some ⟨w.heap.size + 1 + 1 + 3, 0, none⟩), .pointer (some ⟨w.heap.size + 1 + 1, 0, none⟩)]) rfl trivial (enters_of Try.func25 (by kernel_rfl) rfl)
    hst keepIn_t (keepIn_b (by omega)) (Below.refl _ _) (fun _ => rfl)
    (fun pre W => ((∀ i ∈ pre, bitAt l0 (placeAt (hOf key) (dOf key) ((m : Int) * 8) i) ≠ 0) ∧ W.cell? ⟨w.heap.size, 0, none⟩ = some (.slice (some ad) (m + 1) c0) ∧ W.cell? ⟨w.heap.size + 1, 0, none⟩ = some (.bool false) ∧ W.frozen? ⟨w.heap.size + 1, 0, none⟩ = false) ∧ Below w.heap.size w W)
    (fun c pre W => (c = .ret ∧ (∃ i ∈ pre, bitAt l0 (placeAt (hOf key) (dOf key) ((m : Int) * 8) i) = 0) ∧ W.cell? ⟨w.heap.size + 1, 0, none⟩ = some (.bool false)) ∧ Below w.heap.size w W)
    (OwnFrom.and (Own.from (fun s A B row hs hg hr => ⟨hs.1, cell_kept hs.2.1 hg hr, cell_kept hs.2.2.1 hg hr, (frozen_kept hs.2.2.1 hg hr).trans hs.2.2.2⟩) _) (ownFrom_below (Nat.le_refl _) (by omega)))
    (fun c => OwnFrom.and (Own.from (fun s A B row hs hg hr => ⟨hs.1, hs.2.1, cell_kept hs.2.2 hg hr⟩) _) (ownFrom_below (Nat.le_refl _) (by omega)))
    ⟨⟨by simp, c24, c4, f4⟩, hB1⟩
    (fun x => { tmps := #[Value.slice (some ad) (m + 1) c0, Value.string key, Value.pointer (some { block := w.heap.size, off := 0 }),
          undef, Value.pointer (some { block := w.heap.size + 1, off := 0 }), Value.int IntKind.i64 ↑m, .int .u64 (placeAt (hOf key) (dOf key) ((m : Int) * 8) x),
          Value.slice (some ad) (m + 1) c0, Value.int IntKind.i64 0, Value.bool false, Value.slice (some ad) (m + 1) c0,
          Value.int IntKind.i64 (↑m + 1), Value.int IntKind.i64 ↑m, Value.string key, Value.int IntKind.i64 ↑m,
          Value.int IntKind.u64 ↑m, Value.int IntKind.u64 (↑m * 8), Value.slice (some ad) (m + 1) c0,
          Value.int IntKind.i64 ↑m, Value.pointer (some (ad.add m)), Value.int IntKind.u8 ↑k, Value.int IntKind.i64 ↑k,
          Value.func (Fn.func 25) #[]
            #[Value.pointer (some { block := w.heap.size + 1 + 1 + 1, off := 0 }),
              Value.pointer (some { block := w.heap.size + 1 + 1 + 2, off := 0 }),
              Value.pointer (some { block := w.heap.size + 1 + 1 + 3, off := 0 }),
              Value.pointer (some { block := w.heap.size + 1 + 1, off := 0 })],
          .int .u64 (placeAt (hOf key) (dOf key) ((m : Int) * 8) x), undef, undef, undef, undef, undef, undef, undef, undef, undef, undef], defers := [] }) ?assign ?body ?done ?stop
  case assign =>
    intro l x W K hK
    gi_wp2
    exact hK
  case body =>
    rintro l pre x W ⟨⟨hp, hcs, hcr, hfr⟩, hB⟩ _
    clear c24 c4 f4 hst hsz
    have hbd := placeAt_bd (hOf key) (dOf key) ((m : Int) * 8) x (by omega)
    obtain ⟨p, hpq⟩ : ∃ p, placeAt (hOf key) (dOf key) ((m : Int) * 8) x = p := ⟨_, rfl⟩
    have HPQ := Aside0.mk hpq
    rw [hpq] at hbd ⊢
    clear hpq
    obtain ⟨ad', ea, hxx⟩ := Kd.at_int HR0.out (p / 8) (by omega) (by omega)
    cases ea
    have hxc : W.cell? (ad.add (p / 8).toNat) = some (.int .u8 (rd l0 (p / 8))) := (hB.cell (World.block_lt_of_cell? w _ hxx)).trans hxx
    clear hxx
    have hq1 : 0 ≤ p / 8 := by omega
    have hq2 : p / 8 < (m : Int) + 1 := by omega
    have HBI : bitAt l0 p = bits .and .u8 (rd l0 (p / 8) / 2 ^ (p % 8).toNat) 1 := rfl
    have HB := Aside0.mk hB
    have HPR := Aside0.mk hp
    clear hB hp
    by_cases hb : bitAt l0 p = 0
    · have hb1 : (bits .and .u8 (rd l0 (p / 8) / 2 ^ (p % 8).toNat) 1 == 0) = true := by rw [← HBI, hb]; rfl
      have HBb := Aside0.mk hb
      clear hb HBI
      gi_wp2
      exact ⟨KeepsOthers.setCell _ _ _, ⟨rfl, ⟨x, by simp, by rw [HPQ.out]; exact HBb.out⟩, World.cell?_setCell_same' _ _ _ (by rw [hcr]; rfl)⟩, HB.out.setCell (p := ⟨w.heap.size + 1, 0, none⟩) (by simp) _⟩
    · have hb1 : (bits .and .u8 (rd l0 (p / 8) / 2 ^ (p % 8).toNat) 1 == 0) = false := by rw [← HBI]; simpa using hb
      have HBb := Aside0.mk hb
      clear hb HBI
      gi_wp2
      refine ⟨KeepsOthers.refl _, KeepIn.refl _ _ _, ⟨fun y hy => ?_, hcs, hcr, hfr⟩, HB.out⟩
      rcases List.mem_append.1 hy with h | h
      · exact HPR.out y h
      · simp at h
        subst h
        rw [HPQ.out]
        exact HBb.out
  case done =>
    rintro D ys W hD rfl ⟨⟨hne, _, hcr, hfr⟩, hB⟩ hK
    clear c24 c4 f4 hst
    have hmay : mayOf l0 key = true := by
      unfold mayOf
      rw [HL.out, show (((m + 1 : Nat) : Int) - 1) = (m : Int) by omega, HK.out, Int.toNat_natCast, List.all_eq_true]
      intro i hi
      rw [Int.mul_comm]
      simpa using hne i hi
    clear hne
    gi_wp2
    have hK' := (KeepsOthers.setCell W ⟨w.heap.size + 1, 0, none⟩ (.bool true)).same D _ hK rfl
    refine ⟨by simp, .inl ⟨_, _, rfl, run_takeDeferred hK', ?_⟩⟩
    have hc5 := cell_kept (World.cell?_setCell_same' W ⟨w.heap.size + 1, 0, none⟩ (.bool true) (by rw [hcr]; rfl)) (grownBy_putObj' _ D (.deferred none)) (fun r e => by cases e; exact ⟨_, hK', rfl⟩)
    refine ⟨.bool true, ?_, by rw [hmay], (hB.setCell (p := ⟨w.heap.size + 1, 0, none⟩) (by simp) _).trans (belowK_b (w := w) (Nat.le_refl _) _ D _ _ (by omega) hK' rfl rfl)⟩
    simp [results, Try.f11, go_sem, hc5]
  case stop =>
    rintro D c pre W hD hpre ⟨⟨rfl, ⟨i, hi, hbit⟩, hcr⟩, hB⟩ hK
    clear c24 c4 f4 hst
    have hmay : mayOf l0 key = false := by
      unfold mayOf
      rw [HL.out, show (((m + 1 : Nat) : Int) - 1) = (m : Int) by omega, HK.out, Int.toNat_natCast, Bool.eq_false_iff]
      intro hall
      rw [List.all_eq_true] at hall
      have := hall i (hpre.subset hi)
      rw [Int.mul_comm] at this
      simp [hbit] at this
    clear hbit hi hpre
    gi_wp2
    refine ⟨by simp, .inl ⟨_, _, rfl, run_takeDeferred hK, ?_⟩⟩
    have hc5 := cell_kept hcr (grownBy_putObj' _ D (.deferred none)) (fun r e => by cases e; exact ⟨_, hK, rfl⟩)
    refine ⟨.bool false, ?_, by rw [hmay], hB.trans (belowK_b (w := w) (Nat.le_refl _) W D _ _ (by omega) hK rfl rfl)⟩
    simp [results, Try.f11, go_sem, hc5]

def filter_May.f (l0 : List Int) (a1 : ByteArray) : Option Bool := if a1.size ≤ 140737488351232 ∧ l0.length < 140737488355328 then (if filter_Check.f l0 = some 0 then some (mayOf l0 a1) else (filter_Check.f l0).map fun _ => true) else none
set_option maxHeartbeats 4000000 in
set_option maxRecDepth 100000 in
theorem filter_May.calls (A0 : Option Addr) (c0 : Nat) (l0 : List Int) (a1 : ByteArray) (r : Bool) (w : World) (hr0 : Kd.C (Kd.int .u8) w A0 l0.length l0) (hc0 : l0.length ≤ c0) (h : filter_May.f l0 a1 = some r) :
    Calls Try.prog 11 #[.slice A0 l0.length c0, .string a1] w fun e w' => e = .returned (.bool r) ∧ Below w.heap.size w w' := by
  unfold filter_May.f at h
  by_cases hb : a1.size ≤ 140737488351232 ∧ l0.length < 140737488355328
  rotate_left
  · rw [if_neg hb] at h; cases h
  rw [if_pos hb] at h
  obtain ⟨hb, hlm⟩ := hb
  by_cases hc : filter_Check.f l0 = some 0
  · rw [if_pos hc] at h
    obtain rfl := Option.some.inj h
    obtain ⟨m, k, hm, hm8, hk, hk1, hk30⟩ := check_zero hc (by omega)
    have := may_core A0 c0 l0 m k hm hm8 (by omega) a1 hb hk hk1 hk30 w (by rw [← hm]; exact hr0) (by omega) hc
    rw [hm]
    exact this
  · rw [if_neg hc] at h
    obtain ⟨t, ht, rfl⟩ := Option.map_eq_some_iff.1 h
    have ht0 : t ≠ 0 := fun e => hc (by rw [ht, e])
    have HC := Aside0.mk (fun w hr => filter_Check.calls A0 c0 l0 t w hr hc0 ht)
    have HR0 := Aside0.mk hr0
    have h1 : (t == 0) = false := by simpa using ht0
    have h2 : (t != 0) = true := by simpa using ht0
    clear hr0 h hc ht0
    go_enter Try.func11, Try.ntmps11
    go_wp2_with (go_at_call 15; refine (HC.out _ (by repeat (first | exact HR0.out | (with_reducible refine Kd.C_alloc ?_ _)))).mono ?_; rintro e w' ⟨rfl, ⟨nd, rfl⟩⟩)
    refine bodyPost_ret (v := .bool true) (by simp [results, Try.f11, go_sem]) rfl ⟨rfl, ?_⟩
    exact (pw_below_drewN (below_alloc (below_alloc (Below.refl _ _) _) _) _).setCell (p := ⟨w.heap.size + 1, 0, none⟩) (by simp) _
end Go.Proofs.Ytifoofgdfaaaoaa.P
