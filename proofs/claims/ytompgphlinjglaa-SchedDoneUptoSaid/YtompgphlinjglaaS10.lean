/- Contracts: the program's Add. -/
import Derived.Test.YtompgphlinjglaaS9
namespace Go.Proofs.Ytompgphlinjglaa.P
open Go.RowKit Go.Proofs.YtompgphlinjglaaW.PrintWords Go.Proofs.YtompgphlinjglaaW.PrintLast Go.Proofs.YtompgphlinjglaaW.PrintMore
attribute [local go_sem] Oper.semAt_some
set_option linter.unusedVariables false
set_option linter.unusedSimpArgs false

section
variable {k : Nat} {w : World} {g : Nat → Tag} {p : Nat} {S : LS} {bs : List Nat}
def newT (acts : List (Int × Int)) : TS := ⟨acts, 0, 0, []⟩
def TAdd (k : Nat) : Tag → Prop := fun t => t = .loop k ∨ t = .tasks k ∨ t = .waits k
set_option maxHeartbeats 4000000 in
set_option maxRecDepth 100000 in
theorem addFull_calls (h : LoopIs k w g p S bs) (hn : 64 ≤ S.tasks.length) (b : Nat) :
    Calls Try.prog 24 #[.pointer (some ⟨p, 0, none⟩), .iface 59 (.pointer (some ⟨b, 0, none⟩))] w fun e w' => e = .returned (.tuple #[.int .i64 0, .int .i64 2]) ∧ w = w' := by
  have hm := made_calls h
  obtain ⟨A0, c0, A1, c1, A2, c2, At, ct, Aw, cw, e, h⟩ := h
  have c3 := (blkc h.blk 3 rfl).1
  have HM := Aside0.mk hm
  have hd : decide (64 ≤ (S.tasks.length : Int)) = true := decide_eq_true (by omega)
  clear h hm hn
  go_enter Try.func24, Try.ntmps24
  go_wp2_with (go_at_call 35; refine HM.out.mono ?_; rintro e w' ⟨rfl, rfl⟩)
  go_ret2
  exact ⟨rfl, rfl⟩
theorem getD_append_new (ts : List TS) (t : TS) (j : Nat) (hj : j < ts.length + 1) : (ts ++ [t]).getD j default = if j < ts.length then ts.getD j default else t := by
  simp only [List.getD_eq_getElem?_getD, List.getElem?_append]
  by_cases h : j < ts.length
  · rw [if_pos h, if_pos h]
  · rw [if_neg h, if_neg h]
    have : j - ts.length = 0 := by omega
    simp [this]
theorem getD_append_nat (ts : List Nat) (t : Nat) (j : Nat) (hj : j < ts.length + 1) : (ts ++ [t]).getD j 0 = if j < ts.length then ts.getD j 0 else t := by
  simp only [List.getD_eq_getElem?_getD, List.getElem?_append]
  by_cases h : j < ts.length
  · rw [if_pos h, if_pos h]
  · rw [if_neg h, if_neg h]
    have : j - ts.length = 0 := by omega
    simp [this]
theorem add_end {A0 : Option Addr} {c0 : Nat} {A1 : Option Addr} {c1 : Nat} {A2 : Option Addr} {c2 : Nat} {At : Option Addr} {ct : Nat} {Aw : Option Addr} {cw : Nat} {e : Nat} {b : Nat} {acts : List (Int × Int)} {w2 w3 : World} {At2 : Option Addr} {ct2 : Nat} {Aw2 : Option Addr} {cw2 m2 m3 : Nat}
    (h : LoopAt k w g p S A0 c0 A1 c1 A2 c2 At ct Aw cw e bs) (hn : S.tasks.length < 64) (ha : ActIs k S.tasks.length w g b (newT acts))
    (ho2 : kTask.R 85 w2 0 (fun _ => True) (.slice At2 m2 ct2) (bs ++ [b])) (hg2 : w.grownBy w2 (Value.slice At S.tasks.length ct).ownBlock) (hat2 : (Value.slice At2 m2 ct2).ownBlock = (Value.slice At S.tasks.length ct).ownBlock ∨ ∃ j, (Value.slice At2 m2 ct2).ownBlock = some j ∧ w.heap.size ≤ j)
    (ho3 : (Kd.int .i64).R 3 w3 0 (fun _ => True) (.slice Aw2 m3 cw2) (waitsF S ++ [0])) (hg3 : (w2.setCell ⟨p, 3, none⟩ (.slice At2 m2 ct2)).grownBy w3 (Value.slice Aw S.tasks.length cw).ownBlock) (hat3 : (Value.slice Aw2 m3 cw2).ownBlock = (Value.slice Aw S.tasks.length cw).ownBlock ∨ ∃ j, (Value.slice Aw2 m3 cw2).ownBlock = some j ∧ w.heap.size ≤ j) :
    (∃ v, w3.heap[p]? = some (.cells #[.slice A0 S.picks.length c0, .slice A1 S.ticks.length c1, .slice A2 S.draws.length c2, .slice At2 (S.tasks.length + 1) ct2, v, .pointer (some ⟨e, 0, none⟩), .int .i64 S.count, .int .i64 S.used] 81 (0, 0))) ∧
    ∃ g', Ext w.heap.size g g' ∧ Only (TAdd k) g w (w3.setCell ⟨p, 4, none⟩ (.slice Aw2 m3 cw2)) ∧ LoopIs k (w3.setCell ⟨p, 4, none⟩ (.slice Aw2 m3 cw2)) g' p (addF S acts) (bs ++ [b]) := by
  have hbl : S.tasks.length = bs.length := (Kd.R_reads' h.tasks.1).1
  have hm2 : m2 = S.tasks.length + 1 := by rw [(Kd.R_reads' ho2).1, List.length_append, hbl]; rfl
  have hm3 : m3 = S.tasks.length + 1 := by rw [(Kd.R_reads' ho3).1, List.length_append, waitsF_len]; rfl
  subst hm2 hm3
  have B2 := blk_grown h.blk hg2 (Kd.R_ne h.tasks.1 h.blk (by decide))
  have W2 := Kd.R_over h.waits.1 h.tasks.1 (by decide) hg2
  have B2' := blk_put B2 3 (.slice At2 (S.tasks.length + 1) ct2) rfl
  have W2' := Kd.R_set W2 B2 (by decide) 3 (.slice At2 (S.tasks.length + 1) ct2)
  have T2' := Kd.R_set ho2 B2 (by decide) 3 (.slice At2 (S.tasks.length + 1) ct2)
  have B3 := blk_grown B2' hg3 (Kd.R_ne W2' B2' (by decide))
  have T3 := Kd.R_over T2' W2' (by decide) hg3
  have B4 := blk_put B3 4 (.slice Aw2 (S.tasks.length + 1) cw2) rfl
  have T4 := Kd.R_set T3 B3 (by decide) 4 (.slice Aw2 (S.tasks.length + 1) cw2)
  have W4 := Kd.R_set ho3 B3 (by decide) 4 (.slice Aw2 (S.tasks.length + 1) cw2)
  have O : Only (TAdd k) g w (w3.setCell ⟨p, 4, none⟩ (.slice Aw2 (S.tasks.length + 1) cw2)) :=
    ((((Only.refl (TAdd k) g w).grown hg2 (fun j hj => .inl (.inr (.inl (h.tasks.2 j hj))))).setCell (p := ⟨p, 3, none⟩) (.inl (.inl h.tag)) _).grown hg3 (fun j hj => .inl (.inr (.inr (h.waits.2 j hj))))).setCell (p := ⟨p, 4, none⟩) (.inl (.inl h.tag)) _
  have hlt : ∀ j, (Value.slice At S.tasks.length ct).ownBlock = some j → j < w.heap.size := fun j hj => Kd.R_lt h.tasks.1 j hj
  have hlw : ∀ j, (Value.slice Aw S.tasks.length cw).ownBlock = some j → j < w.heap.size := fun j hj => Kd.R_lt h.waits.1 j hj
  have E1 : Ext w.heap.size g (putv g (.slice At2 (S.tasks.length + 1) ct2) (.tasks k)) := putv_ext (fun j hj hn => by
    rcases hat2 with hat | ⟨j', hj', hle⟩
    · exact h.tasks.2 j (by rw [← hat]; exact hj)
    · rw [hj'] at hj; injection hj with hj; omega)
  have E2 : Ext w.heap.size g (putv (putv g (.slice At2 (S.tasks.length + 1) ct2) (.tasks k)) (.slice Aw2 (S.tasks.length + 1) cw2) (.waits k)) := E1.trans (putv_ext (n := w.heap.size) (fun j hj hn => by
    rcases hat3 with hat | ⟨j', hj', hle⟩
    · rw [E1 j hn]; exact h.waits.2 j (by rw [← hat]; exact hj)
    · rw [hj'] at hj; injection hj with hj; omega)) (Nat.le_refl _)
  -- the two rows' blocks differ: their types do
  have ne : ∀ j, (Value.slice At2 (S.tasks.length + 1) ct2).ownBlock = some j → (Value.slice Aw2 (S.tasks.length + 1) cw2).ownBlock ≠ some j := fun j hj hj' => by
    obtain ⟨cs, hc⟩ := Kd.R_typed T4 j hj
    obtain ⟨cs', hc'⟩ := Kd.R_typed W4 j hj'
    rw [hc] at hc'
    injection hc' with hc'
    injection hc' with _ ht
    exact absurd ht (by decide)
  have hS : addF S acts = { S with tasks := S.tasks ++ [newT acts] } := by unfold addF; rw [if_pos hn]; rfl
  refine ⟨⟨_, B3⟩, _, E2, O, ?_⟩
  rw [hS]
  have hl : (S.tasks ++ [newT acts]).length = S.tasks.length + 1 := by simp
  refine ⟨A0, c0, A1, c1, A2, c2, At2, ct2, Aw2, cw2, e, ⟨?_, ?_, h.l0, h.l1, h.l2, h.picks.move O E2 (by unfold TAdd; simp), h.ticks.move O E2 (by unfold TAdd; simp), h.draws.move O E2 (by unfold TAdd; simp), ⟨?_, fun j hj => ?_⟩, ⟨?_, fun j hj => ?_⟩, fun j hj => ?_, (E2 p (blk_lt h.blk)).trans h.tag, (E2 e (blk_lt h.env)).trans h.etag⟩⟩
  · show _ = some (Obj.cells #[_, _, _, .slice At2 (S.tasks ++ [newT acts]).length ct2, .slice Aw2 (S.tasks ++ [newT acts]).length cw2, _, _, _] 81 (0, 0))
    rw [hl]; exact B4
  · exact O.blk h.env (by rw [h.etag]; unfold TAdd; simp)
  · show kTask.R _ _ _ _ (.slice At2 (S.tasks ++ [newT acts]).length ct2) _
    rw [hl]; exact T4
  · have hj' : (Value.slice At2 (S.tasks.length + 1) ct2).ownBlock = some j := by rw [← hl]; exact hj
    rw [putv_no (ne j hj')]; exact putv_at hj'
  · show (Kd.int .i64).R _ _ _ _ (.slice Aw2 (S.tasks ++ [newT acts]).length cw2) ((S.tasks ++ [newT acts]).map (·.wait))
    rw [hl, List.map_append]; exact W4
  · have hj' : (Value.slice Aw2 (S.tasks.length + 1) cw2).ownBlock = some j := by rw [← hl]; exact hj
    exact putv_at hj'
  · have hj' : j < S.tasks.length + 1 := by rw [← hl]; exact hj
    show ActIs k j _ _ ((bs ++ [b]).getD j 0) ((S.tasks ++ [newT acts]).getD j default)
    rw [getD_append_nat bs b j (by omega), getD_append_new S.tasks (newT acts) j hj', ← hbl]
    by_cases hh : j < S.tasks.length
    · rw [if_pos hh, if_pos hh]
      exact (h.each j hh).move O E2 (by unfold TAdd; simp) (by unfold TAdd; simp) (by unfold TAdd; simp)
    · rw [if_neg hh, if_neg hh]
      obtain rfl : j = S.tasks.length := by omega
      exact ha.move O E2 (by unfold TAdd; simp) (by unfold TAdd; simp) (by unfold TAdd; simp)
set_option maxHeartbeats 4000000 in
set_option maxRecDepth 100000 in
theorem add_calls (h : LoopIs k w g p S bs) (hn : S.tasks.length < 64) {b : Nat} {acts : List (Int × Int)} (ha : ActIs k S.tasks.length w g b (newT acts)) :
    Calls Try.prog 24 #[.pointer (some ⟨p, 0, none⟩), .iface 59 (.pointer (some ⟨b, 0, none⟩))] w fun e w' => e = .returned (.tuple #[.int .i64 S.tasks.length, .int .i64 0]) ∧ ∃ g', Ext w.heap.size g g' ∧ Only (TAdd k) g w w' ∧ LoopIs k w' g' p (addF S acts) (bs ++ [b]) := by
  have hm := made_calls h
  obtain ⟨A0, c0, A1, c1, A2, c2, At, ct, Aw, cw, e, h⟩ := h
  obtain ⟨c3, f3⟩ := blkc h.blk 3 rfl
  have HM := Aside0.mk hm
  have HA := Aside0.mk ha
  have H := Aside0.mk h
  have hd : decide (64 ≤ (S.tasks.length : Int)) = false := decide_eq_false (by omega)
  have hbl : S.tasks.length = bs.length := (Kd.R_reads' h.tasks.1).1
  have HL := Aside0.mk hbl
  have HB0 := Aside0.mk (Below.refl 0 w)
  have HL3 := Aside0.mk (show (waitsF S ++ [(0 : Int)]).length = S.tasks.length + 1 by rw [List.length_append, waitsF_len]; rfl)
  have hp := blk_lt h.blk
  clear h hm hbl ha
  go_enter Try.func24, Try.ntmps24
  go_wp2_with (first
    | (go_at_call 35; refine HM.out.mono ?_; rintro e w' ⟨rfl, rfl⟩)
    | ((with_reducible refine gate_builtin (b := .append) (xs := #[.tmp 24, .tmp 26]) rfl ?_); at_builtin; refine Kd.R_append kTask (w0 := w) 0 rfl (.tmp 24) (.tmp 26) 79 85 .nilIface 16 rfl Try.underlying79 info85 rfl (by decide) (by omega) (.slice At S.tasks.length ct) bs b [.iface 59 (.pointer (some ⟨b, 0, none⟩))] (fun _ => True) (fun _ => False) rfl rfl rfl (fun _ h => h.elim) (fun _ _ => trivial) H.out.tasks.1 HB0.out (Nat.zero_le _) (by have := HL.out; omega) ?_; intro v2 w2 ho2 hb2 hg2 hat2; obtain ⟨At2, ct2, ev2⟩ := Kd.R_slice ho2; rw [show (bs ++ [b]).length = bs.length + 1 by simp] at ev2; subst ev2; have HO2 := Aside0.mk ho2; have HG2 := Aside0.mk hg2; have HAT2 := Aside0.mk hat2; have B2 := blk_grown H.out.blk hg2 (Kd.R_ne H.out.tasks.1 H.out.blk (by decide)); have W2 := Aside0.mk (Kd.R_set (Kd.R_over H.out.waits.1 H.out.tasks.1 (by decide) hg2) B2 (by decide) 3 (.slice At2 (bs.length + 1) ct2)); obtain ⟨d3, e3⟩ := blkc B2 3 rfl; obtain ⟨d4, e4⟩ := blkc B2 4 rfl; clear ho2 hb2 hg2 hat2 c3 f3)
    | ((with_reducible refine gate_builtin (b := .append) (xs := #[.tmp 34, .tmp 35]) rfl ?_); at_builtin; refine Kd.R_append (Kd.int .i64) (w0 := w2.setCell ⟨p, 3, none⟩ (.slice At2 (bs.length + 1) ct2)) 0 rfl (.tmp 34) (.tmp 35) 22 3 (.int .i64 0) 8 rfl Try.underlying22 info3 rfl (by decide) (by omega) (.slice Aw S.tasks.length cw) (waitsF S) 0 [.int .i64 0] (fun _ => True) (fun _ => False) rfl (by show Value.slice (some ⟨w2.heap.size, 0, none⟩) 1 1 = _; simp [World.setCell]) rfl (fun _ h => h.elim) (fun _ _ => trivial) W2.out (Below.refl _ _) (Nat.zero_le _) (by rw [waitsF_len]; omega) ?_; intro v3 w3 ho3 hb3 hg3 hat3; obtain ⟨Aw2, cw2, ev3⟩ := Kd.R_slice ho3; rw [HL3.out] at ev3; subst ev3; obtain ⟨⟨vv, B3⟩, g', hX, hO, hL⟩ := add_end H.out hn HA.out HO2.out HG2.out HAT2.out ho3 hg3 (hat3.imp (fun h => h) (fun ⟨j, hj, hle⟩ => ⟨j, hj, Nat.le_trans HG2.out.size (by simpa [World.setCell] using hle)⟩)); have HX := Aside0.mk hX; have HO := Aside0.mk hO; have HLL := Aside0.mk hL; obtain ⟨k3, _⟩ := blkc B3 3 rfl; obtain ⟨k4, k4f⟩ := blkc B3 4 rfl; clear hX hO hL ho3 hb3 hg3 hat3))
  go_ret2
  exact ⟨rfl, g', HX.out, HO.out, HLL.out⟩
end
end Go.Proofs.Ytompgphlinjglaa.P
