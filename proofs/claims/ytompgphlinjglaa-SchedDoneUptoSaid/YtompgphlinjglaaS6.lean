/- Contracts: the program's Env.Now, Env.Draw, Acts.Told. -/
import Derived.Test.YtompgphlinjglaaS5
namespace Go.Proofs.Ytompgphlinjglaa.P
open Go.RowKit Go.Proofs.YtompgphlinjglaaW.PrintWords Go.Proofs.YtompgphlinjglaaW.PrintLast Go.Proofs.YtompgphlinjglaaW.PrintMore
attribute [local go_sem] Oper.semAt_some
set_option linter.unusedVariables false
set_option linter.unusedSimpArgs false

set_option maxHeartbeats 1000000 in
set_option maxRecDepth 100000 in
theorem envNow_calls {w : World} {e n c : Nat} {cl dr : Int} {A : Option Addr} (h : w.heap[e]? = some (.cells #[.int .u64 cl, .slice A n c, .int .i64 dr] 83 (0, 0))) :
    Calls Try.prog 28 #[.pointer (some ⟨e, 0, none⟩)] w fun ev w' => ev = .returned (.int .u64 cl) ∧ w = w' := by
  have c0 := (blkc h 0 rfl).1
  clear h
  go_enter Try.func28, Try.ntmps28
  go_wp2
  go_ret
  exact ⟨rfl, rfl⟩
set_option maxHeartbeats 1000000 in
set_option maxRecDepth 100000 in
theorem envNowNil_calls (w : World) : Calls Try.prog 28 #[.pointer none] w fun ev w' => ev = .returned (.int .u64 0) ∧ w = w' := by
  go_enter Try.func28, Try.ntmps28
  go_wp2
  go_ret
  exact ⟨rfl, rfl⟩
set_option maxHeartbeats 1000000 in
set_option maxRecDepth 100000 in
theorem drawNil_calls (w : World) : Calls Try.prog 29 #[.pointer none] w fun ev w' => ev = .returned (.int .u64 0) ∧ w = w' := by
  go_enter Try.func29, Try.ntmps29
  go_wp2
  go_ret
  exact ⟨rfl, rfl⟩
set_option maxHeartbeats 1000000 in
set_option maxRecDepth 100000 in
theorem toldNil_calls (w : World) : Calls Try.prog 30 #[.pointer none] w fun ev w' => ev = .returned (.slice none 0 0) ∧ w = w' := by
  go_enter Try.func30, Try.ntmps30
  go_wp2
  go_ret
  exact ⟨rfl, rfl⟩
set_option maxHeartbeats 1000000 in
set_option maxRecDepth 100000 in
theorem told_calls {k i b : Nat} {w : World} {g : Nat → Tag} {t : TS} (h : ActIs k i w g b t) (hl : t.told.length ≤ 8796093022208) :
    Calls Try.prog 30 #[.pointer (some ⟨b, 0, none⟩)] w fun ev w' => ∃ v, ev = .returned v ∧ Kd.R (Kd.int .u64) 48 w' w.heap.size (fun _ => True) v t.told ∧ Below w.heap.size w w' := by
  obtain ⟨A, c, v, h⟩ := h
  obtain ⟨A1, c1, rfl⟩ := Kd.R_slice h.told.1
  have c2 := (blkc h.blk 2 rfl).1
  have hr := Kd.R_reads' h.told.1
  have HC := Aside0.mk (cloneU64_calls A1 c1 t.told w hr.2.2 hr.2.1 (by omega))
  clear h hr hl
  go_enter Try.func30, Try.ntmps30
  go_wp2_with (go_at_call 46; refine HC.out.mono ?_; rintro e w' ⟨v, rfl, hR, hB⟩; have HR := Aside0.mk hR; have HB := Aside0.mk hB; clear hR hB)
  go_ret
  exact ⟨_, rfl, HR.out, HB.out⟩
set_option maxHeartbeats 2000000 in
set_option maxRecDepth 100000 in
theorem draw_calls {k : Nat} {w : World} {g : Nat → Tag} {e c dr : Nat} {cl : Int} {A : Option Addr} {ds : List Int} (h : w.heap[e]? = some (.cells #[.int .u64 cl, .slice A ds.length c, .int .i64 dr] 83 (0, 0)))
    (hD : Dat (Kd.int .u64) w g A ds.length ds) (ht : g e = .env k) (hdr : dr ≤ 4611686018427387904) (hdl : ds.length ≤ 65536) :
    Calls Try.prog 29 #[.pointer (some ⟨e, 0, none⟩)] w fun ev w' => ev = .returned (.int .u64 (drawOf ds dr)) ∧ Only (fun t => t = .env k) g w w' ∧ w'.heap[e]? = some (.cells #[.int .u64 cl, .slice A ds.length c, .int .i64 (dr + 1 : Nat)] 83 (0, 0)) := by
  have c1 := (blkc h 1 rfl).1
  have c2 := blkc h 2 rfl
  obtain ⟨c2, c2f⟩ := c2
  have HO := Aside0.mk ((Only.refl (fun t => t = Tag.env k) g w).setCell (p := ⟨e, 2, none⟩) (.inl ht) (.int .i64 ((dr : Int) + 1)))
  have HB := Aside0.mk (blk_set h 2 (.int .i64 ((dr : Int) + 1)))
  by_cases hlt : dr < ds.length
  · have hD1 := (hD.move HO.out (Ext.refl _ _) (by simp)).now
    obtain ⟨ad, e1, hx⟩ := Kd.at_int hD1 (dr : Int) (Int.natCast_nonneg _) (by omega)
    cases e1
    rw [Int.toNat_natCast] at hx
    have HE := Aside0.mk (show rd ds dr = drawOf ds dr by unfold drawOf; rw [if_pos hlt]; simp [rd])
    rw [HE.out] at hx
    clear h hD hD1 HE
    go_enter Try.func29, Try.ntmps29
    go_wp2
    go_ret
    exact ⟨rfl, HO.out, HB.out⟩
  · have HE := Aside0.mk (show mixF ((dr : Int) - (ds.length : Int) + 1) = drawOf ds dr by
      unfold drawOf
      rw [if_neg hlt, show ((dr - ds.length : Nat) : Int) = (dr : Int) - (ds.length : Int) by omega])
    clear h hD
    go_enter Try.func29, Try.ntmps29
    go_wp2_with (go_at_call 31; refine (mix_calls _ _).mono ?_; rintro e w' ⟨rfl, ⟨n, rfl⟩⟩)
    go_ret
    exact ⟨by rw [← HE.out]; rfl, HO.out.drewN n, blk_drewN HB.out n⟩
end Go.Proofs.Ytompgphlinjglaa.P
