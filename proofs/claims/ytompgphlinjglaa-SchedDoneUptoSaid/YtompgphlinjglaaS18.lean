/- Contracts: the reference's draw. -/
import Derived.Test.YtompgphlinjglaaS17
namespace Go.Proofs.Ytompgphlinjglaa.P
open Go.RowKit Go.Proofs.YtompgphlinjglaaW.PrintWords Go.Proofs.YtompgphlinjglaaW.PrintLast Go.Proofs.YtompgphlinjglaaW.PrintMore
attribute [local go_sem] Oper.semAt_some
set_option linter.unusedVariables false
set_option linter.unusedSimpArgs false

section
variable {k : Nat} {w w1 : World} {g g1 : Nat → Tag} {p : Nat} {S : LS} {A0 : Option Addr} {c0 : Nat} {A1 : Option Addr} {c1 : Nat} {A2 : Option Addr} {c2 : Nat} {At : Option Addr} {ct : Nat} {bs : List Nat}
/-- A cell of the loop's is written. -/
theorem RefAt.put (h : RefAt k w g p S A0 c0 A1 c1 A2 c2 At ct bs) (i : Nat) (v : Value) (T : LS) (hp : T.picks = S.picks) (ht : T.ticks = S.ticks) (hd : T.draws = S.draws) (hts : T.tasks = S.tasks)
    (hb : (#[Value.slice A0 S.picks.length c0, .slice A1 S.ticks.length c1, .slice A2 S.draws.length c2, .slice At S.tasks.length ct, .int .u64 S.clock, .int .i64 S.count, .int .i64 S.used, .int .i64 S.drawn] : Array Value).setIfInBounds i v = #[Value.slice A0 S.picks.length c0, .slice A1 S.ticks.length c1, .slice A2 S.draws.length c2, .slice At S.tasks.length ct, .int .u64 T.clock, .int .i64 T.count, .int .i64 T.used, .int .i64 T.drawn]) :
    RefAt k (w.setCell ⟨p, i, none⟩ v) g p T A0 c0 A1 c1 A2 c2 At ct bs ∧ Only (fun t => t = .rloop k) g w (w.setCell ⟨p, i, none⟩ v) := by
  have ho := (Only.refl (fun t => t = Tag.rloop k) g w).setCell (p := ⟨p, i, none⟩) (.inl h.tag) v
  have hx := Ext.refl w.heap.size g
  obtain ⟨q0, q1, q2, q3, q4, q5, q6, q7⟩ := T
  simp only at hp ht hd hts
  subst hp ht hd hts
  exact ⟨⟨blk_put h.blk i v hb, h.l0, h.l1, h.l2, h.picks.move ho hx (by simp), h.ticks.move ho hx (by simp), h.draws.move ho hx (by simp), h.tasks.move rfl ho hx (by simp), fun j hj => (h.each j hj).move ho hx (by simp) (by simp) (by simp), h.tag⟩, ho⟩
theorem RefAt.drewN (h : RefAt k w g p S A0 c0 A1 c1 A2 c2 At ct bs) (n : Nat) : RefAt k (w.drewN n) g p S A0 c0 A1 c1 A2 c2 At ct bs := h.below (pw_below_drewN (Below.refl _ _) n)
theorem RefAt.drew (h : RefAt k w g p S A0 c0 A1 c1 A2 c2 At ct bs) : RefAt k w.drew g p S A0 c0 A1 c1 A2 c2 At ct bs := h.below (below_drew (Below.refl _ _))
theorem RefAt.alloc (h : RefAt k w g p S A0 c0 A1 c1 A2 c2 At ct bs) (o : Obj) : RefAt k (w.alloc o) g p S A0 c0 A1 c1 A2 c2 At ct bs := h.below (below_alloc (Below.refl _ _) o)
set_option maxHeartbeats 4000000 in
set_option maxRecDepth 100000 in
theorem rdraw_calls (h : RefAt k w g p S A0 c0 A1 c1 A2 c2 At ct bs) (hdr : S.drawn ≤ 4611686018427387904) (hdl : S.draws.length ≤ 65536) :
    Calls Try.prog 50 #[.pointer (some ⟨p, 0, none⟩)] w fun e w' => e = .returned (.int .u64 (drawV S)) ∧ RefAt k w' g p { S with drawn := S.drawn + 1 } A0 c0 A1 c1 A2 c2 At ct bs ∧ Only (fun t => t = .rloop k) g w w' := by
  obtain ⟨h1, o1⟩ := h.put 7 (.int .i64 ((S.drawn : Int) + 1)) { S with drawn := S.drawn + 1 } rfl rfl rfl rfl rfl
  obtain ⟨c7, f7⟩ := blkc h.blk 7 rfl
  have c2' := (blkc h.blk 2 rfl).1
  have H1 := Aside0.mk h1
  have O1 := Aside0.mk o1
  by_cases hlt : S.drawn < S.draws.length
  · obtain ⟨ad, ea, hx⟩ := Kd.at_int h1.draws.now (S.drawn : Int) (Int.natCast_nonneg _) (by show (S.drawn : Int) < S.draws.length; omega)
    subst ea
    rw [Int.toNat_natCast] at hx
    have HE := Aside0.mk (show rd S.draws (S.drawn : Int) = drawV S by unfold drawV drawOf; rw [if_pos hlt]; simp [rd])
    have hx' : (w.setCell ⟨p, 7, none⟩ (.int .i64 ((S.drawn : Int) + 1))).cell? (ad.add S.drawn) = some (.int .u64 (drawV S)) := by rw [← HE.out]; exact hx
    have d1 : decide ((S.drawn : Int) + 1 ≤ (S.draws.length : Int)) = true := decide_eq_true (by omega)
    have d2 : (S.drawn : Int) + 1 - 1 = (S.drawn : Int) := by omega
    have d3 : (S.drawn : Int) < (S.draws.length : Int) := by omega
    obtain ⟨dv, hdv⟩ : ∃ dv, drawV S = dv := ⟨_, rfl⟩
    rw [hdv] at hx' ⊢
    clear h h1 o1 hx HE hdv hlt
    go_enter Try.func50, Try.ntmps50
    go_upto_region 2 with (fail)
    go_quiet (fail)
    go_upto_region 3 with (fail)
    go_quiet (fail)
    go_wp2
    go_ret
    exact ⟨rfl, (H1.out.drewN _).drewN _, (O1.out.drewN _).drewN _⟩
  · have HE := Aside0.mk (show mixF ((S.drawn : Int) + 1 - (S.draws.length : Int)) = drawV S by
      unfold drawV drawOf
      rw [if_neg hlt, show ((S.drawn - S.draws.length : Nat) : Int) + 1 = (S.drawn : Int) + 1 - (S.draws.length : Int) by omega])
    have d1 : decide ((S.drawn : Int) + 1 ≤ (S.draws.length : Int)) = false := decide_eq_false (by omega)
    have d3 : (S.draws.length : Int) ≤ (S.drawn : Int) := by omega
    clear h h1 o1 hlt
    go_enter Try.func50, Try.ntmps50
    go_upto_region 2 with (fail)
    go_quiet (fail)
    go_upto_region 4 with (fail)
    have H2 := Aside0.mk (H1.out.drewN nq)
    have O2 := Aside0.mk (O1.out.drewN nq)
    clear H1 O1 c7 f7 c2'
    generalize (w.setCell ⟨p, 7, none⟩ (.int .i64 ((S.drawn : Int) + 1))).drewN nq = w2 at H2 O2 ⊢
    have y7 : w2.cell? ⟨p, 7, none⟩ = some (.int .i64 ((S.drawn : Int) + 1)) := (blkc H2.out.blk 7 rfl).1
    have y2 := (blkc H2.out.blk 2 rfl).1
    go_quiet ((go_at_call 32; refine Calls.quiet_of ((rmix_calls _ _).mono (fun _ _ hh => And.intro hh.1 hh.2.out))))
    go_wp2
    go_ret
    exact ⟨by rw [← HE.out]; rfl, H2.out.drewN _, O2.out.drewN _⟩
end
end Go.Proofs.Ytompgphlinjglaa.P
