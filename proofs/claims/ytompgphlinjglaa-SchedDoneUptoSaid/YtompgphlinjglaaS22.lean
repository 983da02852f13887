/- Contracts: lives. -/
import Derived.Test.YtompgphlinjglaaS11
import Derived.Test.YtompgphlinjglaaS15
namespace Go.Proofs.Ytompgphlinjglaa.P
open Go.RowKit Go.Proofs.YtompgphlinjglaaW.PrintWords Go.Proofs.YtompgphlinjglaaW.PrintLast Go.Proofs.YtompgphlinjglaaW.PrintMore
attribute [local go_sem] Oper.semAt_some
set_option linter.unusedVariables false
set_option linter.unusedSimpArgs false

theorem lit_ints {kd : IntKind} {e : Nat} (w : World) (xs : List Int) (hm : xs.length ≤ 9223372036854775807) : (Kd.int kd).C (w.alloc (.cells (xs.map (Value.int kd)).toArray e)) (some ⟨w.heap.size, 0, none⟩) xs.length xs := by
  have h := World.ownsRow_lit (base := 0) (e := e) (size := 1) w (xs.map (Value.int kd)).toArray xs.length (Nat.zero_le _) (by simpa [maxLen] using hm) (by simp)
  have hr := Kd.R_of_own (h1 := fun _ => rfl) (enc := Value.int kd) (xs := xs) (ok := fun _ => True) (by simpa [encs] using h) (fun _ _ => trivial)
  exact (Kd.R_reads' hr).2.2
/-- lives' own tasks. -/
def lS0 : LS := ⟨[], [3], [9], [], 0, 0, 0, 0⟩
def lActs : List (Int × Int) := [(4, 0), (5, 0), (5, 0)]
theorem lCheck : checkF [] [3] [9] = 0 := by decide
def lS1 : LS := addF lS0 lActs
theorem lS1_eq : lS1 = ⟨[], [3], [9], [⟨lActs, 0, 0, []⟩], 0, 0, 0, 0⟩ := rfl
theorem lGood : Good 0 lS1 := by
  rw [lS1_eq]
  refine ⟨by decide, fun t ht => ?_, by decide, by decide, by decide, by decide, by decide, by decide⟩
  rw [List.mem_singleton.1 ht]
  exact ⟨by decide, by decide, by decide, by decide⟩
def lS2 : LS := ⟨[], [3], [9], [⟨lActs, 1, 0, [3]⟩], 3, 1, 0, 0⟩
def lS3 : LS := ⟨[], [3], [9], [⟨lActs, 2, 0, [3, 9]⟩], 3, 2, 0, 1⟩
def lS4 : LS := ⟨[], [3], [9], [⟨lActs, 3, -1, [3, 9, mixF 1]⟩], 3, 3, 0, 2⟩
theorem lN1 : stepsF lS1 (pickF lS1) = true ∧ nextF lS1 = lS2 := ⟨by decide, by rw [lS1_eq]; rfl⟩
theorem lN2 : stepsF lS2 (pickF lS2) = true ∧ nextF lS2 = lS3 := ⟨by decide, rfl⟩
theorem lN3 : stepsF lS3 (pickF lS3) = true ∧ nextF lS3 = lS4 := ⟨by decide, rfl⟩
theorem lN4 : stepsF lS4 (pickF lS4) = false ∧ nextF lS4 = lS4 := ⟨by decide, rfl⟩
theorem lRun : runF 9 lS1 = lS4 ∧ ranF 9 lS1 = 3 := by
  obtain ⟨a1, b1⟩ := runF_yes (n := 8) lN1.1
  obtain ⟨a2, b2⟩ := runF_yes (n := 7) lN2.1
  obtain ⟨a3, b3⟩ := runF_yes (n := 6) lN3.1
  obtain ⟨a4, b4⟩ := runF_no (n := 5) lN4.1
  rw [a1, b1, lN1.2, a2, b2, lN2.2, a3, b3, lN3.2, a4, b4, lN4.2]
  exact ⟨rfl, rfl⟩
/-- The cells of acts. -/
def actCells (xs : List (Int × Int)) : List Value := xs.flatMap fun a => [.int .i64 a.1, .int .i64 a.2]
theorem actCells_at (xs : List (Int × Int)) : ∀ (j : Nat) (a : Int × Int), xs[j]? = some a → (actCells xs)[j * 2]? = some (.int .i64 a.1) ∧ (actCells xs)[j * 2 + 1]? = some (.int .i64 a.2) := by
  induction xs with
  | nil => intro j a h; simp at h
  | cons x xs ih =>
    intro j a h
    cases j with
    | zero =>
      have e : x = a := by simpa using h
      subst e
      exact ⟨rfl, rfl⟩
    | succ j =>
      have e : xs[j]? = some a := by simpa using h
      obtain ⟨h1, h2⟩ := ih j a e
      have e1 : actCells (x :: xs) = .int .i64 x.1 :: .int .i64 x.2 :: actCells xs := rfl
      rw [e1, show (j + 1) * 2 = j * 2 + 1 + 1 by omega]
      exact ⟨h1, h2⟩
theorem lit_acts (w : World) (xs : List (Int × Int)) (hm : xs.length ≤ 9223372036854775807) : kAct.C (w.alloc (.cells (actCells xs).toArray 31)) (some ⟨w.heap.size, 0, none⟩) xs.length xs := by
  refine ⟨rfl, hm, fun _ => ⟨_, rfl, fun j a hj => ⟨[.int .i64 a.1, .int .i64 a.2], rfl, ⟨[.int .i64 a.1], [.int .i64 a.2], rfl, rfl, rfl⟩, fun i u hu => ?_⟩⟩⟩
  obtain ⟨h1, h2⟩ := actCells_at xs j a hj
  have s : kAct.sz = 2 := rfl
  rw [s, add_plain, blk_cell (blk_new w _)]
  match i, hu with
  | 0, hu =>
    have : u = .int .i64 a.1 := by simpa using hu.symm
    subst this
    simpa using h1
  | 1, hu =>
    have : u = .int .i64 a.2 := by simpa using hu.symm
    subst this
    simpa using h2
  | i + 2, hu => simp at hu
def gData : Nat → Tag := fun _ => .data
theorem TP_data {k : Nat} : ¬ TP k .data := fun h => h
set_option maxHeartbeats 8000000 in
set_option maxRecDepth 100000 in
theorem lives_calls (w : World) : Calls Try.prog 23 #[] w fun e w' => e = .returned (.bool true) ∧ Below w.heap.size w w' := by
  have c1 := lit_ints (kd := .i64) (e := 3) w [3] (by decide)
  have c2 := lit_ints (kd := .u64) (e := 48) (w.alloc (.cells #[.int .i64 3] 3)) [9] (by decide)
  rw [World.size_alloc] at c2
  have HN := Aside0.mk (new_calls none 0 [] (some ⟨w.heap.size, 0, none⟩) 1 [3] (some ⟨w.heap.size + 1, 0, none⟩) 1 [9] ((w.alloc (.cells #[.int .i64 3] 3)).alloc (.cells #[.int .u64 9] 48)) (Kd.C_nil _ _) (Nat.le_refl _) (Kd.C_alloc c1 _) (Nat.le_refl _) c2 (Nat.le_refl _) lCheck (by decide))
  have HB0 := Aside0.mk (below_alloc (below_alloc (Below.refl w.heap.size w) (.cells #[.int .i64 3] 3)) (.cells #[.int .u64 9] 48))
  clear c1 c2
  go_enter Try.func23, Try.ntmps23
  go_upto_region 2 with (go_at_call 27; refine HN.out.mono ?_; rintro e w1 ⟨p, rfl, hb, hp, hl⟩; have HB1 := Aside0.mk (below_step HB0.out hb); have HL1 := Aside0.mk (hl gData 0); clear hb hp hl)
  have HNA := Aside0.mk (newActs_calls (some ⟨w1.heap.size, 0, none⟩) 3 lActs (w1.alloc (.cells (actCells lActs).toArray 31)) (lit_acts w1 lActs (by decide)) (by decide) (by decide))
  have HB2 := Aside0.mk (below_alloc HB1.out (.cells (actCells lActs).toArray 31))
  go_upto_region 3 with (go_at_call 25; refine HNA.out.mono ?_; rintro e w3 ⟨b, rfl, hb, hp, ha⟩; have HB3 := Aside0.mk (below_step HB2.out hb); have HW3 := Aside0.mk (below_step (below_alloc (Below.refl w1.heap.size w1) (.cells (actCells lActs).toArray 31)) hb); have HA3 := Aside0.mk ha; clear hb hp ha)
  obtain ⟨g1, E1, L1⟩ := HL1.out
  obtain ⟨g2, E2, A3⟩ := HA3.out g1 0 0
  have hs1 : w.heap.size ≤ w1.heap.size := HB1.out.size
  have E2' : Ext w1.heap.size g1 g2 := fun j hj => E2 j (by rw [World.size_alloc]; omega)
  have E1' : Ext w.heap.size gData g1 := fun j hj => E1 j (by rw [World.size_alloc, World.size_alloc]; omega)
  have L3 := L1.move (Only.of_below HW3.out (fun _ => False) g1) E2' (fun h => h) (fun _ _ h => h)
  have hadd : Calls Try.prog 24 #[.pointer (some ⟨p, 0, none⟩), .iface 59 (.pointer (some ⟨b, 0, none⟩))] w3 fun e w' => e = .returned (.tuple #[.int .i64 0, .int .i64 0]) ∧ ∃ g', Ext w3.heap.size g2 g' ∧ Only (TAdd 0) g2 w3 w' ∧ LoopIs 0 w' g' p lS1 [b] := add_calls (S := lS0) (bs := []) L3 (by decide) A3
  have HADD := Aside0.mk hadd
  have EG := Aside0.mk (show Ext w.heap.size gData g2 from E1'.trans E2' hs1)
  have HO3 := Aside0.mk (show Only (TP 0) gData w w3 from Only.of_below HB3.out _ _)
  clear HN HB0 HB1 HL1 HNA HB2 HB3 HW3 HA3 E1 E2 E1' E2' L1 A3 L3 hadd hs1
  go_upto_region 6 with (go_at_call 24; refine HADD.out.mono ?_; rintro e w4 ⟨rfl, g3, he, ho, hl⟩; have HE4 := Aside0.mk (show Ext w.heap.size gData g3 from EG.out.trans he HO3.out.size); have HO4 := Aside0.mk (HO3.out.trans (ho.mono (T' := TP 0) (fun t ht => by rcases ht with h | h | h <;> subst h <;> rfl)) EG.out); have HL4 := Aside0.mk hl; clear he ho hl)
  have hrun := run_calls HL4.out lGood 9 (by decide)
  rw [show (9 : Int).toNat = 9 from rfl, lRun.1, lRun.2, show ((3 : Nat) : Int) = 3 from rfl] at hrun
  have HRUN := Aside0.mk hrun
  clear hrun
  go_upto_region 8 with (go_at_call 16; refine HRUN.out.mono ?_; rintro e w5 ⟨rfl, g4, he, ho, hl⟩; have HE5 := Aside0.mk (show Ext w.heap.size gData g4 from HE4.out.trans he HO4.out.size); have HO5 := Aside0.mk (HO4.out.trans ho HE4.out); have HL5 := Aside0.mk hl; clear he ho hl)
  have HTD := Aside0.mk (show Calls Try.prog 30 #[.pointer (some ⟨b, 0, none⟩)] w5 fun ev w' => ∃ v, ev = .returned v ∧ Kd.R (Kd.int .u64) 48 w' w5.heap.size (fun _ => True) v [3, 9, mixF 1] ∧ Below w5.heap.size w5 w' from by
    obtain ⟨A0, c0, A1, c1, A2, c2, At, ct, Aw, cw, e, h⟩ := HL5.out
    exact told_calls (h.each 0 (by decide)) (by decide))
  go_upto_region 9 with (go_at_call 30; refine HTD.out.mono ?_; rintro e w6 ⟨v, rfl, hR, hb⟩; have HR6 := Aside0.mk hR; have HB6 := Aside0.mk hb; clear hR hb)
  obtain ⟨gt, cap, ev, _, _, _⟩ := Kd.R_form HR6.out (by decide)
  subst ev
  have z0 := (Kd.R_celln (0 : Int) HR6.out 0 (by decide) (by decide)).1
  have z1 := (Kd.R_celln (0 : Int) HR6.out 1 (by decide) (by decide)).1
  have z2 := (Kd.R_celln (0 : Int) HR6.out 2 (by decide) (by decide)).1
  have HL6 := Aside0.mk (HL5.out.move (Only.of_below HB6.out (fun _ => False) g4) (Ext.refl _ _) (fun h => h) (fun _ _ h => h))
  have HO6 := Aside0.mk (HO5.out.below HB6.out)
  clear HADD HO3 HO4 HL4 HRUN HL5 HTD HE4 EG HB6
  have HDN := Aside0.mk (show ∀ n, Calls Try.prog 17 #[.pointer (some ⟨p, 0, none⟩)] (w6.drewN n) fun e w' => e = .returned (.bool true) ∧ ∃ m, w' = (w6.drewN n).drewN m from fun n => by
    have := done_calls (HL6.out.move ((Only.refl (fun _ => False) g4 w6).drewN n) (Ext.refl _ _) (fun h => h) (fun _ _ h => h))
    rw [show (!(waitsF lS4).any p38) = true by decide] at this
    exact this.mono (fun _ _ hh => And.intro hh.1 hh.2.out))
  have z0 : w6.cell? ⟨gt, 0, none⟩ = some (.int .u64 3) := z0
  have z1 : w6.cell? ⟨gt, 1, none⟩ = some (.int .u64 9) := z1
  have z2 : w6.cell? ⟨gt, 2, none⟩ = some (.int .u64 (mixF 1)) := z2
  have HMX := Aside0.mk (fun (W : World) => rmix_calls 1 W)
  generalize mixF 1 = mx at z2 HMX
  clear HR6
  go_quiet ((first | (go_at_call 32; refine Calls.quiet_of ((HMX.out _).mono (fun _ _ hh => And.intro hh.1 hh.2.out))) | (go_at_call 17; refine Calls.quiet_of (HDN.out _))))
  go_wp2
  trace_state
  go_ret
  exact ⟨rfl, (HO6.out.drewN _).fin (fun _ _ => rfl) TP_data⟩
end Go.Proofs.Ytompgphlinjglaa.P
