/- Contracts: the program's NewActs, New. -/
import Derived.Test.YtompgphlinjglaaS8
import Derived.Test.YtompgphlinjglaaS10
namespace Go.Proofs.Ytompgphlinjglaa.P
open Go.RowKit Go.Proofs.YtompgphlinjglaaW.PrintWords Go.Proofs.YtompgphlinjglaaW.PrintLast Go.Proofs.YtompgphlinjglaaW.PrintMore
attribute [local go_sem] Oper.semAt_some
set_option linter.unusedVariables false
set_option linter.unusedSimpArgs false

/-- What was made is data from now on. -/
theorem dat_of_R {α : Type} {d : Kd α} (hE : d.E = []) {e : Nat} {w : World} {base : Nat} {A : Option Addr} {n c : Nat} {xs : List α} (h : d.R e w base (fun _ => True) (.slice A n c) xs) (g : Nat → Tag) : Dat d w (putv g (.slice A n c) .data) A n xs :=
  Kd.F_mono (Kd.R_F (Kd.R_tight hE h)) (fun k hk => putv_at hk.symm)
theorem putv_ext_R {α : Type} {d : Kd α} {e : Nat} {w : World} {base : Nat} {v : Value} {xs : List α} (h : d.R e w base (fun _ => True) v xs) (g : Nat → Tag) (t : Tag) : Ext base g (putv g v t) :=
  putv_ext (fun j hj hn => by have := Kd.R_base h j hj; omega)
set_option maxHeartbeats 2000000 in
set_option maxRecDepth 100000 in
theorem newActs_calls (A : Option Addr) (c : Nat) (acts : List (Int × Int)) (w : World) (hC : kAct.C w A acts.length acts) (hc : acts.length ≤ c) (hl : acts.length ≤ 8796093022208) :
    Calls Try.prog 25 #[.slice A acts.length c] w fun e w' => ∃ b, e = .returned (.pointer (some ⟨b, 0, none⟩)) ∧ Below w.heap.size w w' ∧ w.heap.size ≤ b ∧ ∀ (g : Nat → Tag) (k i : Nat), ∃ g', Ext w.heap.size g g' ∧ ActIs k i w' g' b (newT acts) := by
  have HC := Aside0.mk (cloneActs_calls A c acts w hC hc (by omega))
  clear hC hc
  go_enter Try.func25, Try.ntmps25
  go_wp2_with (go_at_call 45; refine HC.out.mono ?_; rintro e w1 ⟨v, rfl, hR, hB⟩; have HR := Aside0.mk hR; have HB := Aside0.mk hB; obtain ⟨A1, c1, rfl⟩ := Kd.R_slice hR; clear hR hB)
  go_ret
  have hle := HB.out.size
  refine ⟨w1.heap.size, rfl, below_alloc HB.out _, hle, fun g k i => ?_⟩
  have h1 := dat_of_R rfl HR.out g
  have x1 := putv_ext_R HR.out g .data
  refine ⟨put (putv g (.slice A1 acts.length c1) .data) w1.heap.size (.act k i), x1.trans (put_ext _ _ _ _ hle) (Nat.le_refl _), A1, c1, .slice none 0 0, ?_, (Kd.R_reads' HR.out).2.1, ?_, Row.nil _ _ _ _ _, put_at _ _ _⟩
  · exact blk_new w1 _
  · exact h1.move ((Only.refl (fun _ => False) _ _).alloc _) (put_ext _ _ _ _ (Nat.le_refl _)) (fun h => h)
theorem newNot_calls (A0 : Option Addr) (c0 : Nat) (l0 : List Int) (A1 : Option Addr) (c1 : Nat) (l1 : List Int) (A2 : Option Addr) (c2 : Nat) (l2 : List Int) (w : World) (h0 : Kd.C (Kd.int .i64) w A0 l0.length l0) (h1 : Kd.C (Kd.int .i64) w A1 l1.length l1) (hk : checkF l0 l1 l2 ≠ 0) :
    Calls Try.prog 27 #[.agg #[.slice A0 l0.length c0, .slice A1 l1.length c1, .slice A2 l2.length c2]] w fun e w' => e = .returned (.tuple #[.pointer none, .int .i64 (checkF l0 l1 l2)]) ∧ Below w.heap.size w w' := by
  have HB := Aside0.mk (below_alloc (Below.refl w.heap.size w) (.cells #[.slice A0 l0.length c0, .slice A1 l1.length c1, .slice A2 l2.length c2] 28))
  have HC := Aside0.mk (check_calls A0 c0 l0 A1 c1 l1 A2 c2 l2 _ (Kd.C_below h0 HB.out) (Kd.C_below h1 HB.out))
  obtain ⟨x, hx⟩ : ∃ x, checkF l0 l1 l2 = x := ⟨_, rfl⟩
  rw [hx] at hk HC ⊢
  have hb0 : (x == 0) = false := by simp [hk]
  have hb1 : (x != 0) = true := by simp [hk]
  clear h0 h1 hx hk
  go_enter Try.func27, Try.ntmps27
  go_wp2_with (go_at_call 34; refine HC.out.mono ?_; rintro e w1 ⟨rfl, hb⟩; have HB1 := Aside0.mk (below_step HB.out hb); clear hb)
  go_ret2
  exact ⟨rfl, HB1.out⟩
set_option maxHeartbeats 8000000 in
set_option maxRecDepth 100000 in
theorem new_calls (A0 : Option Addr) (c0 : Nat) (l0 : List Int) (A1 : Option Addr) (c1 : Nat) (l1 : List Int) (A2 : Option Addr) (c2 : Nat) (l2 : List Int) (w : World) (h0 : Kd.C (Kd.int .i64) w A0 l0.length l0) (hc0 : l0.length ≤ c0) (h1 : Kd.C (Kd.int .i64) w A1 l1.length l1) (hc1 : l1.length ≤ c1) (h2 : Kd.C (Kd.int .u64) w A2 l2.length l2) (hc2 : l2.length ≤ c2) (hk : checkF l0 l1 l2 = 0) (hl : l0.length ≤ 65536 ∧ l1.length ≤ 65536 ∧ l2.length ≤ 65536) :
    Calls Try.prog 27 #[.agg #[.slice A0 l0.length c0, .slice A1 l1.length c1, .slice A2 l2.length c2]] w fun e w' => ∃ p, e = .returned (.tuple #[.pointer (some ⟨p, 0, none⟩), .int .i64 0]) ∧ Below w.heap.size w w' ∧ w.heap.size ≤ p ∧ ∀ (g : Nat → Tag) (k : Nat), ∃ g', Ext w.heap.size g g' ∧ LoopIs k w' g' p ⟨l0, l1, l2, [], 0, 0, 0, 0⟩ [] := by
  have HB := Aside0.mk (below_alloc (Below.refl w.heap.size w) (.cells #[.slice A0 l0.length c0, .slice A1 l1.length c1, .slice A2 l2.length c2] 28))
  have HC := Aside0.mk (check_calls A0 c0 l0 A1 c1 l1 A2 c2 l2 _ (Kd.C_below h0 HB.out) (Kd.C_below h1 HB.out))
  have HC0 := Aside0.mk h0
  have HC1 := Aside0.mk h1
  have HC2 := Aside0.mk h2
  have HL0 := Aside0.mk hc0
  have HL1 := Aside0.mk hc1
  have HL2 := Aside0.mk hc2
  have HLL := Aside0.mk hl
  rw [hk] at HC
  clear h0 h1 h2 hc0 hc1 hc2 hl hk
  go_enter Try.func27, Try.ntmps27
  go_upto_region 4 with (go_at_call 34; refine HC.out.mono ?_; rintro e w1 ⟨rfl, hb⟩; have HB1 := Aside0.mk (below_step HB.out hb); have BX := Aside0.mk (blk_below (blk_new w _) hb); clear hb)
  generalize hz : w.heap.size = b1 at BX ⊢
  have HZ := Aside0.mk hz
  clear hz
  go_cut [5] (fun v5 wc => ∃ (b5 : Nat) (P0 : Option Addr) (q0 : Nat) (P1 : Option Addr) (q1 : Nat) (P2 : Option Addr) (q2 : Nat), v5 = .pointer (some ⟨b5, 0, none⟩) ∧ Aside0 (wc.heap[b5]? = some (.cells #[.slice P0 l0.length q0, .slice P1 l1.length q1, .slice P2 l2.length q2] 28 (0, 0))) ∧ Aside0 ((Kd.int .i64).R 3 wc w1.heap.size (fun _ => True) (.slice P0 l0.length q0) l0) ∧ Aside0 ((Kd.int .i64).R 3 wc w1.heap.size (fun _ => True) (.slice P1 l1.length q1) l1) ∧ Aside0 ((Kd.int .u64).R 48 wc w1.heap.size (fun _ => True) (.slice P2 l2.length q2) l2) ∧ Aside0 (Below w1.heap.size w1 wc))
  case first =>
    have K0 := Aside0.mk (Kd.C_below HC0.out HB1.out)
    have K1 := Aside0.mk (Kd.C_below HC1.out HB1.out)
    have K2 := Aside0.mk (Kd.C_below HC2.out HB1.out)
    have HW1 := Aside0.mk (Below.refl w1.heap.size w1)
    refine start_ (n := 12) (S := fun w' => w'.cell? ⟨b1, 0, none⟩ = some (.slice A0 l0.length c0) ∧ w'.cell? ⟨b1, 1, none⟩ = some (.slice A1 l1.length c1) ∧ w'.cell? ⟨b1, 2, none⟩ = some (.slice A2 l2.length c2)) (ds := [11]) #[false, false, false, false, false, false, false, false, false, false, false, false] (by kernel_rfl) rfl rfl ⟨((blk_cell BX.out 0).trans rfl), ((blk_cell BX.out 1).trans rfl), ((blk_cell BX.out 2).trans rfl)⟩ (fun hHeld => ?_)
    refine pure_ (i := 0) (N := some 11) (v := ?_) (a' := ?_) #[true, false, false, false, false, false, false, false, false, false, false, false] rfl rfl (by kernel_rfl) (fun _ _ _ h => h) (Or.inl ⟨by rfl, ?_⟩) ?_ ?_
    rotate_left
    · intro w'
      go_simp
      with_reducible rfl
    rotate_left
    · simp only [Act.put, List.setIfInBounds_toArray, List.set_cons_zero, List.set_cons_succ, i64_w, i32_w]
      rfl
    refine pure_ (i := 3) (N := some 14) (v := ?_) (a' := ?_) #[true, false, false, true, false, false, false, false, false, false, false, false] rfl rfl (by kernel_rfl) (fun _ _ _ h => h) (Or.inl ⟨by rfl, ?_⟩) ?_ ?_
    rotate_left
    · intro w'
      go_simp
      with_reducible rfl
    rotate_left
    · simp only [Act.put, List.setIfInBounds_toArray, List.set_cons_zero, List.set_cons_succ, i64_w, i32_w]
      rfl
    refine pure_ (i := 6) (N := some 17) (v := ?_) (a' := ?_) #[true, false, false, true, false, false, true, false, false, false, false, false] rfl rfl (by kernel_rfl) (fun _ _ _ h => h) (Or.inl ⟨by rfl, ?_⟩) ?_ ?_
    rotate_left
    · intro w'
      go_simp
      with_reducible rfl
    rotate_left
    · simp only [Act.put, List.setIfInBounds_toArray, List.set_cons_zero, List.set_cons_succ, i64_w, i32_w]
      rfl
    refine take_ (i := 1) (N := some 12) (v := ?_) (a' := ?_) #[true, true, false, true, false, false, true, false, false, false, false, false] rfl rfl (by kernel_rfl) (fun _ _ _ h => h) (Or.inl ⟨by rfl, ?_⟩) hHeld ?_ ?_
    rotate_left
    · rintro w' ⟨s0, s1, s2⟩
      go_simp
      with_reducible rfl
    rotate_left
    · simp only [Act.put, List.setIfInBounds_toArray, List.set_cons_zero, List.set_cons_succ, i64_w, i32_w]
      rfl
    refine take_ (i := 4) (N := some 15) (v := ?_) (a' := ?_) #[true, true, false, true, true, false, true, false, false, false, false, false] rfl rfl (by kernel_rfl) (fun _ _ _ h => h) (Or.inl ⟨by rfl, ?_⟩) hHeld ?_ ?_
    rotate_left
    · rintro w' ⟨s0, s1, s2⟩
      go_simp
      with_reducible rfl
    rotate_left
    · simp only [Act.put, List.setIfInBounds_toArray, List.set_cons_zero, List.set_cons_succ, i64_w, i32_w]
      rfl
    refine take_ (i := 7) (N := some 18) (v := ?_) (a' := ?_) #[true, true, false, true, true, false, true, true, false, false, false, false] rfl rfl (by kernel_rfl) (fun _ _ _ h => h) (Or.inl ⟨by rfl, ?_⟩) hHeld ?_ ?_
    rotate_left
    · rintro w' ⟨s0, s1, s2⟩
      go_simp
      with_reducible rfl
    rotate_left
    · simp only [Act.put, List.setIfInBounds_toArray, List.set_cons_zero, List.set_cons_succ, i64_w, i32_w]
      rfl
    refine two_ (i := 2) (j := 10) (Ni := some 13) (Nj := some 5) #[true, true, true, true, true, false, true, true, false, false, false, false] #[true, true, false, true, true, false, true, true, false, false, true, false] rfl rfl rfl rfl (by kernel_rfl) (by decide) (by decide) (fun K hK => ?_) (fun K hK => ?_)
    · skip
      refine goes_ Try.func36 (by kernel_rfl) rfl #[.slice A0 l0.length c0] (by rfl) rfl rfl (by simp only [List.map_toArray, List.map_cons, List.map_nil]; rfl) ?_
      with_reducible refine (cloneInts_calls A0 c0 l0 _ (Kd.C_below K0.out (by first | exact HW1.out | exact below_drew HW1.out | exact below_alloc HW1.out _ | exact below_drew (below_alloc HW1.out _) | exact below_alloc (below_drew HW1.out) _)) HL0.out (by have := HLL.out; omega)).mono ?_
      rintro e w2 ⟨v, rfl, hR, hb⟩
      have hq := below_step (w := w1) (by first | exact (Below.refl _ _) | exact below_drew (Below.refl _ _) | exact below_alloc (Below.refl _ _) _ | exact below_drew (below_alloc (Below.refl _ _) _) | exact below_alloc (below_drew (Below.refl _ _)) _) hb
      obtain ⟨P0, q0, rfl⟩ := Kd.R_slice hR
      have HR0 := Aside0.mk (Kd.R_lower hR (Below.size (B := w1.heap.size) (w := w1) (by first | exact HW1.out | exact below_drew HW1.out | exact below_alloc HW1.out _ | exact below_drew (below_alloc HW1.out _) | exact below_alloc (below_drew HW1.out) _)))
      have HW2 := Aside0.mk (below_step (w := w1) (by first | exact HW1.out | exact below_drew HW1.out | exact below_alloc HW1.out _ | exact below_drew (below_alloc HW1.out _) | exact below_alloc (below_drew HW1.out) _) hb)
      have BX1 := Aside0.mk (blk_below BX.out hq)
      clear hq hR hb
      refine ⟨_, rfl, ?_⟩
      refine hK.out _ _ ⟨((blk_cell BX1.out 0).trans rfl), ((blk_cell BX1.out 1).trans rfl), ((blk_cell BX1.out 2).trans rfl)⟩ (fun hHeld => ?_)
      clear hK K
      refine norm_ (a' := ?_) ?_ ?_
      rotate_left
      · show Act.put _ (some 13) _ = _
        simp only [Act.put, List.setIfInBounds_toArray, List.set_cons_zero, List.set_cons_succ, i64_w, i32_w]
        rfl
      refine two_ (i := 5) (j := 10) (Ni := some 16) (Nj := some 5) #[true, true, true, true, true, true, true, true, false, false, false, false] #[true, true, true, true, true, false, true, true, false, false, true, false] rfl rfl rfl rfl (by kernel_rfl) (by decide) (by decide) (fun K hK => ?_) (fun K hK => ?_)
      · skip
        refine goes_ Try.func36 (by kernel_rfl) rfl #[.slice A1 l1.length c1] (by rfl) rfl rfl (by simp only [List.map_toArray, List.map_cons, List.map_nil]; rfl) ?_
        with_reducible refine (cloneInts_calls A1 c1 l1 _ (Kd.C_below K1.out (by first | exact HW2.out | exact below_drew HW2.out | exact below_alloc HW2.out _ | exact below_drew (below_alloc HW2.out _) | exact below_alloc (below_drew HW2.out) _)) HL1.out (by have := HLL.out; omega)).mono ?_
        rintro e w3 ⟨v, rfl, hR, hb⟩
        have hq := below_step (w := w2) (by first | exact (Below.refl _ _) | exact below_drew (Below.refl _ _) | exact below_alloc (Below.refl _ _) _ | exact below_drew (below_alloc (Below.refl _ _) _) | exact below_alloc (below_drew (Below.refl _ _)) _) hb
        obtain ⟨P1, q1, rfl⟩ := Kd.R_slice hR
        have HR1 := Aside0.mk (Kd.R_lower hR (Below.size (B := w1.heap.size) (w := w1) (by first | exact HW2.out | exact below_drew HW2.out | exact below_alloc HW2.out _ | exact below_drew (below_alloc HW2.out _) | exact below_alloc (below_drew HW2.out) _)))
        have HW3 := Aside0.mk (below_step (w := w1) (by first | exact HW2.out | exact below_drew HW2.out | exact below_alloc HW2.out _ | exact below_drew (below_alloc HW2.out _) | exact below_alloc (below_drew HW2.out) _) hb)
        have HR0' := Aside0.mk (Kd.R_below HR0.out hq)
        clear HR0
        have HR0 := HR0'
        clear HR0'
        have BX2 := Aside0.mk (blk_below BX1.out hq)
        clear hq hR hb
        refine ⟨_, rfl, ?_⟩
        refine hK.out _ _ ⟨((blk_cell BX2.out 0).trans rfl), ((blk_cell BX2.out 1).trans rfl), ((blk_cell BX2.out 2).trans rfl)⟩ (fun hHeld => ?_)
        clear hK K
        refine norm_ (a' := ?_) ?_ ?_
        rotate_left
        · show Act.put _ (some 16) _ = _
          simp only [Act.put, List.setIfInBounds_toArray, List.set_cons_zero, List.set_cons_succ, i64_w, i32_w]
          rfl
        refine two_ (i := 8) (j := 10) (Ni := some 19) (Nj := some 5) #[true, true, true, true, true, true, true, true, true, false, false, false] #[true, true, true, true, true, true, true, true, false, false, true, false] rfl rfl rfl rfl (by kernel_rfl) (by decide) (by decide) (fun K hK => ?_) (fun K hK => ?_)
        · skip
          refine goes_ Try.func46 (by kernel_rfl) rfl #[.slice A2 l2.length c2] (by rfl) rfl rfl (by simp only [List.map_toArray, List.map_cons, List.map_nil]; rfl) ?_
          with_reducible refine (cloneU64_calls A2 c2 l2 _ (Kd.C_below K2.out (by first | exact HW3.out | exact below_drew HW3.out | exact below_alloc HW3.out _ | exact below_drew (below_alloc HW3.out _) | exact below_alloc (below_drew HW3.out) _)) HL2.out (by have := HLL.out; omega)).mono ?_
          rintro e w4 ⟨v, rfl, hR, hb⟩
          have hq := below_step (w := w3) (by first | exact (Below.refl _ _) | exact below_drew (Below.refl _ _) | exact below_alloc (Below.refl _ _) _ | exact below_drew (below_alloc (Below.refl _ _) _) | exact below_alloc (below_drew (Below.refl _ _)) _) hb
          obtain ⟨P2, q2, rfl⟩ := Kd.R_slice hR
          have HR2 := Aside0.mk (Kd.R_lower hR (Below.size (B := w1.heap.size) (w := w1) (by first | exact HW3.out | exact below_drew HW3.out | exact below_alloc HW3.out _ | exact below_drew (below_alloc HW3.out _) | exact below_alloc (below_drew HW3.out) _)))
          have HW4 := Aside0.mk (below_step (w := w1) (by first | exact HW3.out | exact below_drew HW3.out | exact below_alloc HW3.out _ | exact below_drew (below_alloc HW3.out _) | exact below_alloc (below_drew HW3.out) _) hb)
          have HR0' := Aside0.mk (Kd.R_below HR0.out hq)
          clear HR0
          have HR0 := HR0'
          clear HR0'
          have HR1' := Aside0.mk (Kd.R_below HR1.out hq)
          clear HR1
          have HR1 := HR1'
          clear HR1'
          have BX3 := Aside0.mk (blk_below BX2.out hq)
          clear hq hR hb
          refine ⟨_, rfl, ?_⟩
          refine hK.out _ _ ⟨((blk_cell BX3.out 0).trans rfl), ((blk_cell BX3.out 1).trans rfl), ((blk_cell BX3.out 2).trans rfl)⟩ (fun hHeld => ?_)
          clear hK K
          refine norm_ (a' := ?_) ?_ ?_
          rotate_left
          · show Act.put _ (some 19) _ = _
            simp only [Act.put, List.setIfInBounds_toArray, List.set_cons_zero, List.set_cons_succ, i64_w, i32_w]
            rfl
          refine pure_ (i := 9) (N := some 20) (v := ?_) (a' := ?_) #[true, true, true, true, true, true, true, true, true, true, false, false] rfl rfl (by kernel_rfl) (fun _ _ _ h => h) (Or.inl ⟨by rfl, ?_⟩) ?_ ?_
          rotate_left
          · intro w'
            go_simp
            with_reducible rfl
          rotate_left
          · simp only [Act.put, List.setIfInBounds_toArray, List.set_cons_zero, List.set_cons_succ, i64_w, i32_w]
            rfl
          refine one_ (i := 10) (N := some 5) #[true, true, true, true, true, true, true, true, true, true, true, false] rfl rfl (by kernel_rfl) (by decide) (fun K hK => ?_)
          refine value_ (w1 := ?_) (v := ?_) (by rfl) rfl ?_ ?_
          rotate_left 2
          · go_simp
            constructor
            · rfl
            · rfl
          refine hK.out _ _ ⟨((blk_cell (blk_alloc BX3.out _) 0).trans rfl), ((blk_cell (blk_alloc BX3.out _) 1).trans rfl), ((blk_cell (blk_alloc BX3.out _) 2).trans rfl)⟩ (fun hHeld => ?_)
          clear hK K
          refine norm_ (a' := ?_) ?_ ?_
          rotate_left
          · show Act.put _ (some 5) _ = _
            simp only [Act.put, List.setIfInBounds_toArray, List.set_cons_zero, List.set_cons_succ, i64_w, i32_w]
            rfl
          refine last_ (i := 11) (N := none) #[true, true, true, true, true, true, true, true, true, true, true, true] rfl rfl (by kernel_rfl) (by decide) (fun K hK => ?_)
          refine skip_ (w1 := ?_) (by rfl) rfl ?_ ?_
          rotate_left
          · go_simp
            rfl
          refine hK.out _ _ ?_
          clear hK K
          refine done_ (by kernel_rfl) ?_
          go_wp2
          go_meet
          case rel => exact ⟨w4.heap.size, P0, q0, P1, q1, P2, q2, rfl, ⟨blk_new w4 _⟩, ⟨Kd.R_alloc HR0.out _⟩, ⟨Kd.R_alloc HR1.out _⟩, ⟨Kd.R_alloc HR2.out _⟩, ⟨below_alloc HW4.out _⟩⟩
        · skip
          refine value_ (w1 := ?_) (v := ?_) (by rfl) rfl ?_ ?_
          rotate_left 2
          · go_simp
            constructor
            · rfl
            · rfl
          refine hK.out _ _ ⟨((blk_cell (blk_alloc BX2.out _) 0).trans rfl), ((blk_cell (blk_alloc BX2.out _) 1).trans rfl), ((blk_cell (blk_alloc BX2.out _) 2).trans rfl)⟩ (fun hHeld => ?_)
          clear hK K
          refine norm_ (a' := ?_) ?_ ?_
          rotate_left
          · show Act.put _ (some 5) _ = _
            simp only [Act.put, List.setIfInBounds_toArray, List.set_cons_zero, List.set_cons_succ, i64_w, i32_w]
            rfl
          refine one_ (i := 8) (N := some 19) #[true, true, true, true, true, true, true, true, true, false, true, false] rfl rfl (by kernel_rfl) (by decide) (fun K hK => ?_)
          refine goes_ Try.func46 (by kernel_rfl) rfl #[.slice A2 l2.length c2] (by rfl) rfl rfl (by simp only [List.map_toArray, List.map_cons, List.map_nil]; rfl) ?_
          with_reducible refine (cloneU64_calls A2 c2 l2 _ (Kd.C_below K2.out (by first | exact HW3.out | exact below_drew HW3.out | exact below_alloc HW3.out _ | exact below_drew (below_alloc HW3.out _) | exact below_alloc (below_drew HW3.out) _)) HL2.out (by have := HLL.out; omega)).mono ?_
          rintro e w4 ⟨v, rfl, hR, hb⟩
          have hq := below_step (w := w3) (by first | exact (Below.refl _ _) | exact below_drew (Below.refl _ _) | exact below_alloc (Below.refl _ _) _ | exact below_drew (below_alloc (Below.refl _ _) _) | exact below_alloc (below_drew (Below.refl _ _)) _) hb
          obtain ⟨P2, q2, rfl⟩ := Kd.R_slice hR
          have HR2 := Aside0.mk (Kd.R_lower hR (Below.size (B := w1.heap.size) (w := w1) (by first | exact HW3.out | exact below_drew HW3.out | exact below_alloc HW3.out _ | exact below_drew (below_alloc HW3.out _) | exact below_alloc (below_drew HW3.out) _)))
          have HW4 := Aside0.mk (below_step (w := w1) (by first | exact HW3.out | exact below_drew HW3.out | exact below_alloc HW3.out _ | exact below_drew (below_alloc HW3.out _) | exact below_alloc (below_drew HW3.out) _) hb)
          have HR0' := Aside0.mk (Kd.R_below HR0.out hq)
          clear HR0
          have HR0 := HR0'
          clear HR0'
          have HR1' := Aside0.mk (Kd.R_below HR1.out hq)
          clear HR1
          have HR1 := HR1'
          clear HR1'
          have BX3 := Aside0.mk (blk_below BX2.out hq)
          have Z3 := Aside0.mk (blk_below (g := w3.heap.size) (o := .cells #[.slice none 0 0, .slice none 0 0, .slice none 0 0] 28 (0, 0)) (by first | exact blk_new w3 _ | exact blk_drew (blk_new w3 _) | exact blk_new w3.drew _) hb)
          clear hq hR hb
          obtain ⟨y0, yf0⟩ := blkc Z3.out 0 rfl
          obtain ⟨y1, yf1⟩ := blkc Z3.out 1 rfl
          obtain ⟨y2, yf2⟩ := blkc Z3.out 2 rfl
          refine ⟨_, rfl, ?_⟩
          refine hK.out _ _ ⟨((blk_cell BX3.out 0).trans rfl), ((blk_cell BX3.out 1).trans rfl), ((blk_cell BX3.out 2).trans rfl)⟩ (fun hHeld => ?_)
          clear hK K
          refine norm_ (a' := ?_) ?_ ?_
          rotate_left
          · show Act.put _ (some 19) _ = _
            simp only [Act.put, List.setIfInBounds_toArray, List.set_cons_zero, List.set_cons_succ, i64_w, i32_w]
            rfl
          refine pure_ (i := 9) (N := some 20) (v := ?_) (a' := ?_) #[true, true, true, true, true, true, true, true, true, true, true, false] rfl rfl (by kernel_rfl) (fun _ _ _ h => h) (Or.inl ⟨by rfl, ?_⟩) ?_ ?_
          rotate_left
          · intro w'
            go_simp
            with_reducible rfl
          rotate_left
          · simp only [Act.put, List.setIfInBounds_toArray, List.set_cons_zero, List.set_cons_succ, i64_w, i32_w]
            rfl
          refine last_ (i := 11) (N := none) #[true, true, true, true, true, true, true, true, true, true, true, true] rfl rfl (by kernel_rfl) (by decide) (fun K hK => ?_)
          refine skip_ (w1 := ?_) (by rfl) rfl ?_ ?_
          rotate_left
          · go_simp
            rfl
          refine hK.out _ _ ?_
          clear hK K
          refine done_ (by kernel_rfl) ?_
          go_wp2
          go_meet
          case rel =>
            have hz0 := blk_set Z3.out 0 (.slice P0 l0.length q0)
            have hz1 := blk_set hz0 1 (.slice P1 l1.length q1)
            have hle : w1.heap.size ≤ w3.heap.size := HW3.out.size
            exact ⟨w3.heap.size, P0, q0, P1, q1, P2, q2, rfl, ⟨blk_put hz1 2 _ rfl⟩, ⟨Kd.R_set (Kd.R_set (Kd.R_set HR0.out Z3.out (by decide) 0 _) hz0 (by decide) 1 _) hz1 (by decide) 2 _⟩, ⟨Kd.R_set (Kd.R_set (Kd.R_set HR1.out Z3.out (by decide) 0 _) hz0 (by decide) 1 _) hz1 (by decide) 2 _⟩, ⟨Kd.R_set (Kd.R_set (Kd.R_set HR2.out Z3.out (by decide) 0 _) hz0 (by decide) 1 _) hz1 (by decide) 2 _⟩, ⟨below_set (below_set (below_set HW4.out hle) hle) hle⟩⟩
      · skip
        refine value_ (w1 := ?_) (v := ?_) (by rfl) rfl ?_ ?_
        rotate_left 2
        · go_simp
          constructor
          · rfl
          · rfl
        refine hK.out _ _ ⟨((blk_cell (blk_alloc BX1.out _) 0).trans rfl), ((blk_cell (blk_alloc BX1.out _) 1).trans rfl), ((blk_cell (blk_alloc BX1.out _) 2).trans rfl)⟩ (fun hHeld => ?_)
        clear hK K
        refine norm_ (a' := ?_) ?_ ?_
        rotate_left
        · show Act.put _ (some 5) _ = _
          simp only [Act.put, List.setIfInBounds_toArray, List.set_cons_zero, List.set_cons_succ, i64_w, i32_w]
          rfl
        refine one_ (i := 5) (N := some 16) #[true, true, true, true, true, true, true, true, false, false, true, false] rfl rfl (by kernel_rfl) (by decide) (fun K hK => ?_)
        refine goes_ Try.func36 (by kernel_rfl) rfl #[.slice A1 l1.length c1] (by rfl) rfl rfl (by simp only [List.map_toArray, List.map_cons, List.map_nil]; rfl) ?_
        with_reducible refine (cloneInts_calls A1 c1 l1 _ (Kd.C_below K1.out (by first | exact HW2.out | exact below_drew HW2.out | exact below_alloc HW2.out _ | exact below_drew (below_alloc HW2.out _) | exact below_alloc (below_drew HW2.out) _)) HL1.out (by have := HLL.out; omega)).mono ?_
        rintro e w3 ⟨v, rfl, hR, hb⟩
        have hq := below_step (w := w2) (by first | exact (Below.refl _ _) | exact below_drew (Below.refl _ _) | exact below_alloc (Below.refl _ _) _ | exact below_drew (below_alloc (Below.refl _ _) _) | exact below_alloc (below_drew (Below.refl _ _)) _) hb
        obtain ⟨P1, q1, rfl⟩ := Kd.R_slice hR
        have HR1 := Aside0.mk (Kd.R_lower hR (Below.size (B := w1.heap.size) (w := w1) (by first | exact HW2.out | exact below_drew HW2.out | exact below_alloc HW2.out _ | exact below_drew (below_alloc HW2.out _) | exact below_alloc (below_drew HW2.out) _)))
        have HW3 := Aside0.mk (below_step (w := w1) (by first | exact HW2.out | exact below_drew HW2.out | exact below_alloc HW2.out _ | exact below_drew (below_alloc HW2.out _) | exact below_alloc (below_drew HW2.out) _) hb)
        have HR0' := Aside0.mk (Kd.R_below HR0.out hq)
        clear HR0
        have HR0 := HR0'
        clear HR0'
        have BX2 := Aside0.mk (blk_below BX1.out hq)
        have Z2 := Aside0.mk (blk_below (g := w2.heap.size) (o := .cells #[.slice none 0 0, .slice none 0 0, .slice none 0 0] 28 (0, 0)) (by first | exact blk_new w2 _ | exact blk_drew (blk_new w2 _) | exact blk_new w2.drew _) hb)
        clear hq hR hb
        refine ⟨_, rfl, ?_⟩
        refine hK.out _ _ ⟨((blk_cell BX2.out 0).trans rfl), ((blk_cell BX2.out 1).trans rfl), ((blk_cell BX2.out 2).trans rfl)⟩ (fun hHeld => ?_)
        clear hK K
        refine norm_ (a' := ?_) ?_ ?_
        rotate_left
        · show Act.put _ (some 16) _ = _
          simp only [Act.put, List.setIfInBounds_toArray, List.set_cons_zero, List.set_cons_succ, i64_w, i32_w]
          rfl
        refine one_ (i := 8) (N := some 19) #[true, true, true, true, true, true, true, true, true, false, true, false] rfl rfl (by kernel_rfl) (by decide) (fun K hK => ?_)
        refine goes_ Try.func46 (by kernel_rfl) rfl #[.slice A2 l2.length c2] (by rfl) rfl rfl (by simp only [List.map_toArray, List.map_cons, List.map_nil]; rfl) ?_
        with_reducible refine (cloneU64_calls A2 c2 l2 _ (Kd.C_below K2.out (by first | exact HW3.out | exact below_drew HW3.out | exact below_alloc HW3.out _ | exact below_drew (below_alloc HW3.out _) | exact below_alloc (below_drew HW3.out) _)) HL2.out (by have := HLL.out; omega)).mono ?_
        rintro e w4 ⟨v, rfl, hR, hb⟩
        have hq := below_step (w := w3) (by first | exact (Below.refl _ _) | exact below_drew (Below.refl _ _) | exact below_alloc (Below.refl _ _) _ | exact below_drew (below_alloc (Below.refl _ _) _) | exact below_alloc (below_drew (Below.refl _ _)) _) hb
        obtain ⟨P2, q2, rfl⟩ := Kd.R_slice hR
        have HR2 := Aside0.mk (Kd.R_lower hR (Below.size (B := w1.heap.size) (w := w1) (by first | exact HW3.out | exact below_drew HW3.out | exact below_alloc HW3.out _ | exact below_drew (below_alloc HW3.out _) | exact below_alloc (below_drew HW3.out) _)))
        have HW4 := Aside0.mk (below_step (w := w1) (by first | exact HW3.out | exact below_drew HW3.out | exact below_alloc HW3.out _ | exact below_drew (below_alloc HW3.out _) | exact below_alloc (below_drew HW3.out) _) hb)
        have HR0' := Aside0.mk (Kd.R_below HR0.out hq)
        clear HR0
        have HR0 := HR0'
        clear HR0'
        have HR1' := Aside0.mk (Kd.R_below HR1.out hq)
        clear HR1
        have HR1 := HR1'
        clear HR1'
        have BX3 := Aside0.mk (blk_below BX2.out hq)
        have Z3 := Aside0.mk (blk_below Z2.out hq)
        clear hq hR hb
        obtain ⟨y0, yf0⟩ := blkc Z3.out 0 rfl
        obtain ⟨y1, yf1⟩ := blkc Z3.out 1 rfl
        obtain ⟨y2, yf2⟩ := blkc Z3.out 2 rfl
        refine ⟨_, rfl, ?_⟩
        refine hK.out _ _ ⟨((blk_cell BX3.out 0).trans rfl), ((blk_cell BX3.out 1).trans rfl), ((blk_cell BX3.out 2).trans rfl)⟩ (fun hHeld => ?_)
        clear hK K
        refine norm_ (a' := ?_) ?_ ?_
        rotate_left
        · show Act.put _ (some 19) _ = _
          simp only [Act.put, List.setIfInBounds_toArray, List.set_cons_zero, List.set_cons_succ, i64_w, i32_w]
          rfl
        refine pure_ (i := 9) (N := some 20) (v := ?_) (a' := ?_) #[true, true, true, true, true, true, true, true, true, true, true, false] rfl rfl (by kernel_rfl) (fun _ _ _ h => h) (Or.inl ⟨by rfl, ?_⟩) ?_ ?_
        rotate_left
        · intro w'
          go_simp
          with_reducible rfl
        rotate_left
        · simp only [Act.put, List.setIfInBounds_toArray, List.set_cons_zero, List.set_cons_succ, i64_w, i32_w]
          rfl
        refine last_ (i := 11) (N := none) #[true, true, true, true, true, true, true, true, true, true, true, true] rfl rfl (by kernel_rfl) (by decide) (fun K hK => ?_)
        refine skip_ (w1 := ?_) (by rfl) rfl ?_ ?_
        rotate_left
        · go_simp
          rfl
        refine hK.out _ _ ?_
        clear hK K
        refine done_ (by kernel_rfl) ?_
        go_wp2
        go_meet
        case rel =>
          have hz0 := blk_set Z3.out 0 (.slice P0 l0.length q0)
          have hz1 := blk_set hz0 1 (.slice P1 l1.length q1)
          have hle : w1.heap.size ≤ w2.heap.size := HW2.out.size
          exact ⟨w2.heap.size, P0, q0, P1, q1, P2, q2, rfl, ⟨blk_put hz1 2 _ rfl⟩, ⟨Kd.R_set (Kd.R_set (Kd.R_set HR0.out Z3.out (by decide) 0 _) hz0 (by decide) 1 _) hz1 (by decide) 2 _⟩, ⟨Kd.R_set (Kd.R_set (Kd.R_set HR1.out Z3.out (by decide) 0 _) hz0 (by decide) 1 _) hz1 (by decide) 2 _⟩, ⟨Kd.R_set (Kd.R_set (Kd.R_set HR2.out Z3.out (by decide) 0 _) hz0 (by decide) 1 _) hz1 (by decide) 2 _⟩, ⟨below_set (below_set (below_set HW4.out hle) hle) hle⟩⟩
    · skip
      refine value_ (w1 := ?_) (v := ?_) (by rfl) rfl ?_ ?_
      rotate_left 2
      · go_simp
        constructor
        · rfl
        · rfl
      refine hK.out _ _ ⟨((blk_cell (blk_alloc BX.out _) 0).trans rfl), ((blk_cell (blk_alloc BX.out _) 1).trans rfl), ((blk_cell (blk_alloc BX.out _) 2).trans rfl)⟩ (fun hHeld => ?_)
      clear hK K
      refine norm_ (a' := ?_) ?_ ?_
      rotate_left
      · show Act.put _ (some 5) _ = _
        simp only [Act.put, List.setIfInBounds_toArray, List.set_cons_zero, List.set_cons_succ, i64_w, i32_w]
        rfl
      refine one_ (i := 2) (N := some 13) #[true, true, true, true, true, false, true, true, false, false, true, false] rfl rfl (by kernel_rfl) (by decide) (fun K hK => ?_)
      refine goes_ Try.func36 (by kernel_rfl) rfl #[.slice A0 l0.length c0] (by rfl) rfl rfl (by simp only [List.map_toArray, List.map_cons, List.map_nil]; rfl) ?_
      with_reducible refine (cloneInts_calls A0 c0 l0 _ (Kd.C_below K0.out (by first | exact HW1.out | exact below_drew HW1.out | exact below_alloc HW1.out _ | exact below_drew (below_alloc HW1.out _) | exact below_alloc (below_drew HW1.out) _)) HL0.out (by have := HLL.out; omega)).mono ?_
      rintro e w2 ⟨v, rfl, hR, hb⟩
      have hq := below_step (w := w1) (by first | exact (Below.refl _ _) | exact below_drew (Below.refl _ _) | exact below_alloc (Below.refl _ _) _ | exact below_drew (below_alloc (Below.refl _ _) _) | exact below_alloc (below_drew (Below.refl _ _)) _) hb
      obtain ⟨P0, q0, rfl⟩ := Kd.R_slice hR
      have HR0 := Aside0.mk (Kd.R_lower hR (Below.size (B := w1.heap.size) (w := w1) (by first | exact HW1.out | exact below_drew HW1.out | exact below_alloc HW1.out _ | exact below_drew (below_alloc HW1.out _) | exact below_alloc (below_drew HW1.out) _)))
      have HW2 := Aside0.mk (below_step (w := w1) (by first | exact HW1.out | exact below_drew HW1.out | exact below_alloc HW1.out _ | exact below_drew (below_alloc HW1.out _) | exact below_alloc (below_drew HW1.out) _) hb)
      have BX1 := Aside0.mk (blk_below BX.out hq)
      have Z1 := Aside0.mk (blk_below (g := w1.heap.size) (o := .cells #[.slice none 0 0, .slice none 0 0, .slice none 0 0] 28 (0, 0)) (by first | exact blk_new w1 _ | exact blk_drew (blk_new w1 _) | exact blk_new w1.drew _) hb)
      clear hq hR hb
      refine ⟨_, rfl, ?_⟩
      refine hK.out _ _ ⟨((blk_cell BX1.out 0).trans rfl), ((blk_cell BX1.out 1).trans rfl), ((blk_cell BX1.out 2).trans rfl)⟩ (fun hHeld => ?_)
      clear hK K
      refine norm_ (a' := ?_) ?_ ?_
      rotate_left
      · show Act.put _ (some 13) _ = _
        simp only [Act.put, List.setIfInBounds_toArray, List.set_cons_zero, List.set_cons_succ, i64_w, i32_w]
        rfl
      refine one_ (i := 5) (N := some 16) #[true, true, true, true, true, true, true, true, false, false, true, false] rfl rfl (by kernel_rfl) (by decide) (fun K hK => ?_)
      refine goes_ Try.func36 (by kernel_rfl) rfl #[.slice A1 l1.length c1] (by rfl) rfl rfl (by simp only [List.map_toArray, List.map_cons, List.map_nil]; rfl) ?_
      with_reducible refine (cloneInts_calls A1 c1 l1 _ (Kd.C_below K1.out (by first | exact HW2.out | exact below_drew HW2.out | exact below_alloc HW2.out _ | exact below_drew (below_alloc HW2.out _) | exact below_alloc (below_drew HW2.out) _)) HL1.out (by have := HLL.out; omega)).mono ?_
      rintro e w3 ⟨v, rfl, hR, hb⟩
      have hq := below_step (w := w2) (by first | exact (Below.refl _ _) | exact below_drew (Below.refl _ _) | exact below_alloc (Below.refl _ _) _ | exact below_drew (below_alloc (Below.refl _ _) _) | exact below_alloc (below_drew (Below.refl _ _)) _) hb
      obtain ⟨P1, q1, rfl⟩ := Kd.R_slice hR
      have HR1 := Aside0.mk (Kd.R_lower hR (Below.size (B := w1.heap.size) (w := w1) (by first | exact HW2.out | exact below_drew HW2.out | exact below_alloc HW2.out _ | exact below_drew (below_alloc HW2.out _) | exact below_alloc (below_drew HW2.out) _)))
      have HW3 := Aside0.mk (below_step (w := w1) (by first | exact HW2.out | exact below_drew HW2.out | exact below_alloc HW2.out _ | exact below_drew (below_alloc HW2.out _) | exact below_alloc (below_drew HW2.out) _) hb)
      have HR0' := Aside0.mk (Kd.R_below HR0.out hq)
      clear HR0
      have HR0 := HR0'
      clear HR0'
      have BX2 := Aside0.mk (blk_below BX1.out hq)
      have Z2 := Aside0.mk (blk_below Z1.out hq)
      clear hq hR hb
      refine ⟨_, rfl, ?_⟩
      refine hK.out _ _ ⟨((blk_cell BX2.out 0).trans rfl), ((blk_cell BX2.out 1).trans rfl), ((blk_cell BX2.out 2).trans rfl)⟩ (fun hHeld => ?_)
      clear hK K
      refine norm_ (a' := ?_) ?_ ?_
      rotate_left
      · show Act.put _ (some 16) _ = _
        simp only [Act.put, List.setIfInBounds_toArray, List.set_cons_zero, List.set_cons_succ, i64_w, i32_w]
        rfl
      refine one_ (i := 8) (N := some 19) #[true, true, true, true, true, true, true, true, true, false, true, false] rfl rfl (by kernel_rfl) (by decide) (fun K hK => ?_)
      refine goes_ Try.func46 (by kernel_rfl) rfl #[.slice A2 l2.length c2] (by rfl) rfl rfl (by simp only [List.map_toArray, List.map_cons, List.map_nil]; rfl) ?_
      with_reducible refine (cloneU64_calls A2 c2 l2 _ (Kd.C_below K2.out (by first | exact HW3.out | exact below_drew HW3.out | exact below_alloc HW3.out _ | exact below_drew (below_alloc HW3.out _) | exact below_alloc (below_drew HW3.out) _)) HL2.out (by have := HLL.out; omega)).mono ?_
      rintro e w4 ⟨v, rfl, hR, hb⟩
      have hq := below_step (w := w3) (by first | exact (Below.refl _ _) | exact below_drew (Below.refl _ _) | exact below_alloc (Below.refl _ _) _ | exact below_drew (below_alloc (Below.refl _ _) _) | exact below_alloc (below_drew (Below.refl _ _)) _) hb
      obtain ⟨P2, q2, rfl⟩ := Kd.R_slice hR
      have HR2 := Aside0.mk (Kd.R_lower hR (Below.size (B := w1.heap.size) (w := w1) (by first | exact HW3.out | exact below_drew HW3.out | exact below_alloc HW3.out _ | exact below_drew (below_alloc HW3.out _) | exact below_alloc (below_drew HW3.out) _)))
      have HW4 := Aside0.mk (below_step (w := w1) (by first | exact HW3.out | exact below_drew HW3.out | exact below_alloc HW3.out _ | exact below_drew (below_alloc HW3.out _) | exact below_alloc (below_drew HW3.out) _) hb)
      have HR0' := Aside0.mk (Kd.R_below HR0.out hq)
      clear HR0
      have HR0 := HR0'
      clear HR0'
      have HR1' := Aside0.mk (Kd.R_below HR1.out hq)
      clear HR1
      have HR1 := HR1'
      clear HR1'
      have BX3 := Aside0.mk (blk_below BX2.out hq)
      have Z3 := Aside0.mk (blk_below Z2.out hq)
      clear hq hR hb
      obtain ⟨y0, yf0⟩ := blkc Z3.out 0 rfl
      obtain ⟨y1, yf1⟩ := blkc Z3.out 1 rfl
      obtain ⟨y2, yf2⟩ := blkc Z3.out 2 rfl
      refine ⟨_, rfl, ?_⟩
      refine hK.out _ _ ⟨((blk_cell BX3.out 0).trans rfl), ((blk_cell BX3.out 1).trans rfl), ((blk_cell BX3.out 2).trans rfl)⟩ (fun hHeld => ?_)
      clear hK K
      refine norm_ (a' := ?_) ?_ ?_
      rotate_left
      · show Act.put _ (some 19) _ = _
        simp only [Act.put, List.setIfInBounds_toArray, List.set_cons_zero, List.set_cons_succ, i64_w, i32_w]
        rfl
      refine pure_ (i := 9) (N := some 20) (v := ?_) (a' := ?_) #[true, true, true, true, true, true, true, true, true, true, true, false] rfl rfl (by kernel_rfl) (fun _ _ _ h => h) (Or.inl ⟨by rfl, ?_⟩) ?_ ?_
      rotate_left
      · intro w'
        go_simp
        with_reducible rfl
      rotate_left
      · simp only [Act.put, List.setIfInBounds_toArray, List.set_cons_zero, List.set_cons_succ, i64_w, i32_w]
        rfl
      refine last_ (i := 11) (N := none) #[true, true, true, true, true, true, true, true, true, true, true, true] rfl rfl (by kernel_rfl) (by decide) (fun K hK => ?_)
      refine skip_ (w1 := ?_) (by rfl) rfl ?_ ?_
      rotate_left
      · go_simp
        rfl
      refine hK.out _ _ ?_
      clear hK K
      refine done_ (by kernel_rfl) ?_
      go_wp2
      go_meet
      case rel =>
        have hz0 := blk_set Z3.out 0 (.slice P0 l0.length q0)
        have hz1 := blk_set hz0 1 (.slice P1 l1.length q1)
        have hle : w1.heap.size ≤ w1.heap.size := Nat.le_refl _
        exact ⟨w1.heap.size, P0, q0, P1, q1, P2, q2, rfl, ⟨blk_put hz1 2 _ rfl⟩, ⟨Kd.R_set (Kd.R_set (Kd.R_set HR0.out Z3.out (by decide) 0 _) hz0 (by decide) 1 _) hz1 (by decide) 2 _⟩, ⟨Kd.R_set (Kd.R_set (Kd.R_set HR1.out Z3.out (by decide) 0 _) hz0 (by decide) 1 _) hz1 (by decide) 2 _⟩, ⟨Kd.R_set (Kd.R_set (Kd.R_set HR2.out Z3.out (by decide) 0 _) hz0 (by decide) 1 _) hz1 (by decide) 2 _⟩, ⟨below_set (below_set (below_set HW4.out hle) hle) hle⟩⟩
  case rest =>
    obtain ⟨b5, P0, q0, P1, q1, P2, q2, rfl, B5, HR0, HR1, HR2, HW⟩ := hcut
    obtain ⟨x0, _⟩ := blkc B5.out 0 rfl
    obtain ⟨x1, _⟩ := blkc B5.out 1 rfl
    obtain ⟨x2, _⟩ := blkc B5.out 2 rfl
    go_wp2
    go_ret2
    have hle : w.heap.size ≤ w1.heap.size := HB1.out.size
    have hle2 : w1.heap.size ≤ wc.heap.size := HW.out.size
    refine ⟨wc.heap.size + 1, rfl, ?_, by omega, fun g k => ?_⟩
    · exact below_alloc (below_alloc (HB1.out.trans (HW.out.mono hle)) _) _
    obtain ⟨g0, hg0⟩ : ∃ g0 : Nat → Tag, g0 = fun j => if j < w1.heap.size then g j else .data := ⟨_, rfl⟩
    have e0 : Ext w.heap.size g g0 := fun j hj => by rw [hg0]; exact if_pos (by omega)
    have d0 : ∀ j, w1.heap.size ≤ j → g0 j = .data := fun j hj => by rw [hg0]; exact if_neg (by omega)
    have D : ∀ {kd : IntKind} {e : Nat} {P : Option Addr} {n q : Nat} {l : List Int}, (Kd.int kd).R e wc w1.heap.size (fun _ => True) (.slice P n q) l → Dat (Kd.int kd) wc g0 P n l := fun h => Kd.F_mono (Kd.R_F (Kd.R_tight rfl h)) (fun j hj => d0 j (Kd.R_base h j hj.symm))
    have O := ((Only.refl (fun _ => False) g0 wc).alloc (.cells #[.int .u64 0, .slice P2 l2.length q2, .int .i64 0] 83)).alloc (.cells #[.slice P0 l0.length q0, .slice P1 l1.length q1, .slice P2 l2.length q2, .slice none 0 0, .slice none 0 0, .pointer (some ⟨wc.heap.size, 0, none⟩), .int .i64 0, .int .i64 0] 81)
    have E1 : Ext wc.heap.size g0 (put (put g0 wc.heap.size (.env k)) (wc.heap.size + 1) (.loop k)) := (put_ext _ _ _ _ (Nat.le_refl _)).trans (put_ext _ _ _ _ (by omega)) (Nat.le_refl _)
    refine ⟨put (put g0 wc.heap.size (.env k)) (wc.heap.size + 1) (.loop k), e0.trans E1 (by omega), P0, q0, P1, q1, P2, q2, none, 0, none, 0, wc.heap.size, ⟨?_, ?_, (Kd.R_reads' HR0.out).2.1, (Kd.R_reads' HR1.out).2.1, (Kd.R_reads' HR2.out).2.1, (D HR0.out).move O E1 (fun h => h), (D HR1.out).move O E1 (fun h => h), (D HR2.out).move O E1 (fun h => h), Row.nil _ _ _ _ _, Row.nil _ _ _ _ _, fun j hj => absurd hj (Nat.not_lt_zero _), put_at _ _ _, ?_⟩⟩
    · have := blk_new (wc.alloc (.cells #[.int .u64 0, .slice P2 l2.length q2, .int .i64 0] 83)) (.cells #[.slice P0 l0.length q0, .slice P1 l1.length q1, .slice P2 l2.length q2, .slice none 0 0, .slice none 0 0, .pointer (some ⟨wc.heap.size, 0, none⟩), .int .i64 0, .int .i64 0] 81)
      rw [World.size_alloc] at this
      exact this
    · exact blk_alloc (blk_new wc _) _
    · exact (if_neg (by omega)).trans (put_at _ _ _)
end Go.Proofs.Ytompgphlinjglaa.P
