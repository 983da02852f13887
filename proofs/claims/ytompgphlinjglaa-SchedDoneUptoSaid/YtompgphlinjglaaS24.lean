/- Contracts: add, of both. -/
import Derived.Test.YtompgphlinjglaaS23
namespace Go.Proofs.Ytompgphlinjglaa.P
open Go.RowKit Go.Proofs.YtompgphlinjglaaW.PrintWords Go.Proofs.YtompgphlinjglaaW.PrintLast Go.Proofs.YtompgphlinjglaaW.PrintMore
attribute [local go_sem] Oper.semAt_some
set_option linter.unusedVariables false
set_option linter.unusedSimpArgs false

section
variable {k : Nat} {w w1 : World} {g g1 : Nat → Tag} {q : Nat} {S : LS} {pl pr : Nat} {Aa : Option Addr} {ca : Nat} {bs : List Nat}
def BPost (k : Nat) (w : World) (g : Nat → Tag) (q : Nat) (T : LS) (w' : World) : Prop := ∃ g', Ext w.heap.size g g' ∧ Only (TB k) g w w' ∧ BothIs k w' g' q T
theorem ptr_own {e : Nat} {v : Value} {xs : List Nat} (h : kPtr.R e w 0 (fun _ => True) v xs) : w.ownsRow 0 e 1 v xs.length (encs (fun b : Nat => Value.pointer (some ⟨b, 0, none⟩)) xs) := Kd.own_of_R h
theorem ptr_R {e : Nat} {v : Value} {xs : List Nat} {x : Nat} (h : w.ownsRow 0 e 1 v (xs.length + 1) (encs (fun b : Nat => Value.pointer (some ⟨b, 0, none⟩)) xs ++ [.pointer (some ⟨x, 0, none⟩)])) : kPtr.R e w 0 (fun _ => True) v (xs ++ [x]) := by
  refine Kd.R_of_own (h1 := fun _ => rfl) ?_ (fun _ _ => trivial)
  rw [List.length_append, encs_append]
  exact h
theorem addF_go {acts : List (Int × Int)} (hn : S.tasks.length < 64) : addF S acts = { S with tasks := S.tasks ++ [newT acts] } := by unfold addF; rw [if_pos hn]; rfl
theorem addF_no {acts : List (Int × Int)} (hn : ¬ S.tasks.length < 64) : addF S acts = S := by unfold addF; rw [if_neg hn]
def TRadd (k : Nat) : Tag → Prop := fun t => t = .rloop k ∨ t = .rtasks k
theorem radd_end {A0 : Option Addr} {c0 : Nat} {A1 : Option Addr} {c1 : Nat} {A2 : Option Addr} {c2 : Nat} {At : Option Addr} {ct : Nat} {p bt c : Nat} {A At2 : Option Addr} {m2 ct2 : Nat} {acts : List (Int × Int)} {W1 w2 : World}
    (h : RefAt k w g p S A0 c0 A1 c1 A2 c2 At ct bs) (hn : S.tasks.length < 64) (hA : Dat kAct w g A acts.length acts) (hc : acts.length ≤ c) (hB1 : Below w.heap.size w W1)
    (hT : W1.heap[bt]? = some (.cells #[.slice A acts.length c, .int .i64 0, .int .i64 0, .slice none 0 0] 78 (0, 0))) (hbt : w.heap.size ≤ bt) (hg : W1.grownBy w2 (Value.slice At S.tasks.length ct).ownBlock)
    (ho2 : kPtr.R 76 w2 0 (fun _ => True) (.slice At2 m2 ct2) (bs ++ [bt])) (hat : (Value.slice At2 m2 ct2).ownBlock = (Value.slice At S.tasks.length ct).ownBlock ∨ ∃ j, (Value.slice At2 m2 ct2).ownBlock = some j ∧ w.heap.size ≤ j) :
    (w2.heap[p]? = some (.cells #[.slice A0 S.picks.length c0, .slice A1 S.ticks.length c1, .slice A2 S.draws.length c2, .slice At S.tasks.length ct, .int .u64 S.clock, .int .i64 S.count, .int .i64 S.used, .int .i64 S.drawn] 75 (0, 0))) ∧
    ∃ g', Ext w.heap.size g g' ∧ Only (TRadd k) g w (w2.setCell ⟨p, 3, none⟩ (.slice At2 m2 ct2)) ∧ RefIs k (w2.setCell ⟨p, 3, none⟩ (.slice At2 m2 ct2)) g' p (addF S acts) ∧ ∃ ct3, (w2.setCell ⟨p, 3, none⟩ (.slice At2 m2 ct2)).cell? ⟨p, 3, none⟩ = some (.slice At2 (S.tasks.length + 1) ct3) := by
  have hbl : S.tasks.length = bs.length := (Kd.R_reads' h.tasks.1).1
  have hm2 : m2 = S.tasks.length + 1 := by rw [(Kd.R_reads' ho2).1, List.length_append, hbl]; rfl
  subst hm2
  have B1 := blk_below h.blk hB1
  have T1 := Kd.R_below h.tasks.1 hB1
  have B2 := blk_grown B1 hg (Kd.R_ne T1 B1 (by decide))
  have Z2 := blk_grown hT hg (Kd.R_ne T1 hT (by decide))
  have B3 := blk_put B2 3 (.slice At2 (S.tasks.length + 1) ct2) rfl
  have hbp : bt ≠ p := by have := blk_lt h.blk; omega
  have Z3 := blk_far Z2 (p := ⟨p, 3, none⟩) hbp (.slice At2 (S.tasks.length + 1) ct2)
  have T3 := Kd.R_set ho2 B2 (by decide) 3 (.slice At2 (S.tasks.length + 1) ct2)
  have O : Only (TRadd k) g w (w2.setCell ⟨p, 3, none⟩ (.slice At2 (S.tasks.length + 1) ct2)) := ((Only.of_below hB1 (TRadd k) g).grown hg (fun j hj => .inl (.inr (h.tasks.2 j hj)))).setCell (p := ⟨p, 3, none⟩) (.inl (.inl h.tag)) _
  have ne : (Value.slice At2 (S.tasks.length + 1) ct2).ownBlock ≠ some bt := fun hj => by
    obtain ⟨cs, hcs⟩ := Kd.R_typed T3 bt hj
    rw [Z3] at hcs
    injection hcs with hcs
    injection hcs with _ ht
    exact absurd ht (by decide)
  have E : Ext w.heap.size g (putv (put g bt (.ract k S.tasks.length)) (.slice At2 (S.tasks.length + 1) ct2) (.rtasks k)) := (put_ext _ _ _ _ hbt).trans (putv_ext (n := w.heap.size) (fun j hj hn => by
    rcases hat with hat | ⟨j', hj', hle⟩
    · rw [put_ext g bt w.heap.size (.ract k S.tasks.length) hbt j hn]; exact h.tasks.2 j (by rw [← hat]; exact hj)
    · rw [hj'] at hj; injection hj with hj; omega)) (Nat.le_refl _)
  have hl : (S.tasks ++ [newT acts]).length = S.tasks.length + 1 := by simp
  refine ⟨B2, _, E, O, ?_, ct2, (blk_cell B3 3).trans rfl⟩
  rw [addF_go hn]
  refine ⟨A0, c0, A1, c1, A2, c2, At2, ct2, bs ++ [bt], ?_, h.l0, h.l1, h.l2, h.picks.move O E (by unfold TRadd; simp), h.ticks.move O E (by unfold TRadd; simp), h.draws.move O E (by unfold TRadd; simp), ⟨?_, fun j hj => ?_⟩, fun j hj => ?_, (E p (blk_lt h.blk)).trans h.tag⟩
  · show _ = some (Obj.cells #[_, _, _, .slice At2 (S.tasks ++ [newT acts]).length ct2, _, _, _, _] 75 (0, 0))
    rw [hl]; exact B3
  · show kPtr.R _ _ _ _ (.slice At2 (S.tasks ++ [newT acts]).length ct2) _
    rw [hl]; exact T3
  · have hj' : (Value.slice At2 (S.tasks.length + 1) ct2).ownBlock = some j := by rw [← hl]; exact hj
    exact putv_at hj'
  · have hj' : j < S.tasks.length + 1 := by rw [← hl]; exact hj
    show RActIs k j _ _ ((bs ++ [bt]).getD j 0) ((S.tasks ++ [newT acts]).getD j default)
    rw [getD_append_nat bs bt j (by omega), getD_append_new S.tasks (newT acts) j hj', ← hbl]
    by_cases hh : j < S.tasks.length
    · rw [if_pos hh, if_pos hh]
      exact (h.each j hh).move O E (by unfold TRadd; simp) (by unfold TRadd; simp) (by unfold TRadd; simp)
    · rw [if_neg hh, if_neg hh]
      obtain rfl : j = S.tasks.length := by omega
      exact ⟨A, c, .slice none 0 0, Z3, hc, hA.move O E (by unfold TRadd; simp), Row.nil _ _ _ _ _, by rw [putv_no ne]; exact put_at _ _ _⟩
set_option maxHeartbeats 8000000 in
set_option maxRecDepth 100000 in
theorem both_add (h : BothAt k w g q S pl pr Aa ca bs) {A : Option Addr} {c : Nat} {acts : List (Int × Int)} (hA : Dat kAct w g A acts.length acts) (hc : acts.length ≤ c) (hl : acts.length ≤ 8796093022208) (hn : S.tasks.length ≤ 64) :
    Calls Try.prog 10 #[.pointer (some ⟨q, 0, none⟩), .slice A acts.length c] w fun e w' => e = .returned (.bool true) ∧ BPost k w g q (addF S acts) w' := by
  have HH := Aside0.mk h
  have HA := Aside0.mk hA
  have HC := Aside0.mk hc
  have HL := Aside0.mk hl
  have HTN := Aside0.mk hn
  have HB0 := Aside0.mk (Below.refl w.heap.size w)
  have hl2 : acts.length ≤ 9223372036854775807 := by omega
  clear h hA hc hl hn
  go_enter Try.func10, Try.ntmps10
  go_upto_region 2 with (first
    | ((with_reducible refine gate_dst (N := 10) rfl ?_); refine Kd.R_lit kAct _ 31 ?hg (N := 10) ?hd (xs := ([] : List (Int × Int))) (inner := []) (ok := fun _ => True) (okp := fun _ => True) ?hr ?hp (fun _ hk => hk) trivial (Below.refl _ _) (Nat.le_refl _) (by simp) ?_; (case hd => rfl); (case hg => rfl); (case hr => first | (go_simp; done) | (go_simp; rfl)); (case hp => exact (Reps.none _ _)); intro v1 w1 ho1 hb hg_ hnew_; clear hg_ hnew_; have HO := Aside0.mk ho1; have HB1 := Aside0.mk (below_step HB0.out hb); clear hb ho1)
    | ((with_reducible refine gate_builtin (b := .append) (xs := #[.tmp 10, .tmp 11]) rfl ?_); at_builtin; refine Kd.R_append_rows kAct (w0 := w) w.heap.size rfl (.tmp 10) (.tmp 11) 32 31 (.agg #[.int .i64 0, .int .i64 0]) 16 rfl Try.underlying32 info31 rfl (by decide) (by omega) v1 [] acts _ _ _ (fun _ => True) (fun _ => False) rfl rfl (Kd.R_lower HO.out (by first | exact HB1.out.size | exact Nat.le_refl _)) (Kd.C_below HA.out.now HB1.out) (fun _ _ h => h) (fun _ h => h.elim) (fun _ _ => trivial) HB1.out (below_size HB1.out) (by have := HL.out; simp; omega) ?_; intro v2 w2 ho2 hb2 hg2 hat2; clear hg2 hat2; have HO2 := Aside0.mk ho2; have HB2 := Aside0.mk hb2; clear ho2 hb2))
  rw [List.nil_append] at HO2
  obtain ⟨P, cp, ev⟩ := Kd.R_slice HO2.out
  subst ev
  have hr2 := Kd.R_reads' HO2.out
  have HNA := Aside0.mk (newActs_calls P cp acts w2 hr2.2.2 hr2.2.1 HL.out)
  clear hr2
  go_upto_block 0 with (go_at_call 25; refine HNA.out.mono ?_; rintro e w3 ⟨b, rfl, hb, hp, ha⟩; have HB3 := Aside0.mk (below_step HB2.out hb); have HW3 := Aside0.mk hb; have HA3 := Aside0.mk (ha (clean g w.heap.size) k S.tasks.length); clear hb hp ha)
  obtain ⟨g3, HE3, A3⟩ := HA3.out
  have hs2 : w.heap.size ≤ w2.heap.size := HB2.out.size
  have hs3 : w2.heap.size ≤ w3.heap.size := HW3.out.size
  have E3 := Aside0.mk (show Ext w.heap.size g g3 from fun j hj => (HE3 j (by omega)).trans (clean_ext g _ j hj))
  have OT3 := Aside0.mk (show ∀ j, w.heap.size ≤ j → j < w2.heap.size → g3 j = .other from fun j hj hj2 => (HE3 j hj2).trans (clean_new g _ j hj))
  have A3' := Aside0.mk A3
  have BT3 := Aside0.mk (HH.out.move (Only.of_below HB3.out (fun _ => False) g) E3.out (fun h => h) (fun _ _ h => h))
  have DA3 := Aside0.mk (HA.out.move (Only.of_below HB3.out (fun _ => False) g) E3.out (fun h => h))
  have HRO := Aside0.mk (Kd.R_below HO2.out HW3.out)
  clear HE3 A3 HA3 HNA HB0 HB1 HO
  go_cut [7] (fun v7 w4 => Aside0 (Only (fun t => t = .other) g3 w3 w4) ∧ Aside0 (Below w.heap.size w w4))
  case first =>
    by_cases h0 : acts.length = 0
    · have hz : ((acts.length : Nat) : Int) = 0 := by omega
      have hzb : decide ((0 : Int) < (acts.length : Int)) = false := decide_eq_false (by omega)
      have hzc : decide ((0 : Nat) < acts.length) = false := decide_eq_false (by omega)
      go_wp2
      go_loopg [7] 0 (fun kq v7 w' => v7 = .int .i64 0 ∧ w3 = w')
      case atStart => exact ⟨rfl, rfl⟩
      case round =>
        obtain ⟨rfl, rfl⟩ := hrel
        go_wp2
        go_meet
        case rel => exact ⟨⟨Only.refl _ _ _⟩, HB3⟩
    · obtain ⟨go, co, ev, hgo, _, _⟩ := Kd.R_form HRO.out (by omega)
      have e1 : P = some ⟨go, 0, none⟩ := by injection ev
      cases e1
      clear ev
      have hgo2 : go < w2.heap.size := Kd.R_lt HO2.out go rfl
      have HT := Aside0.mk (OT3.out go hgo hgo2)
      obtain ⟨cs0, hcs0⟩ := Kd.R_typed HRO.out go rfl
      have HC0 := Aside0.mk (show ∀ j, j < acts.length → cs0[j * 2]? = some (.int .i64 (acts.getD j (0, 0)).1) from fun j hj => by
        obtain ⟨ad, ea, x0, _⟩ := at_act (Kd.R_reads' HRO.out).2.2 j hj
        injection ea with ea
        subst ea
        rw [add_plain, blk_cell hcs0] at x0
        exact x0)
      have HCS := Aside0.mk hcs0
      clear hcs0
      go_wp2
      go_loopg [7] acts.length (fun kq v7 w' => ∃ (i : Nat) (cs : Array Value), v7 = .int .i64 i ∧ i ≤ acts.length ∧ Aside0 (kq = acts.length - i) ∧ Aside0 (w'.heap[go]? = some (.cells cs 31 (0, 0))) ∧ Aside0 (∀ j, i ≤ j → j < acts.length → cs[j * 2]? = some (.int .i64 (acts.getD j (0, 0)).1)) ∧ Aside0 (Only (fun t => t = .other) g3 w3 w') ∧ Aside0 (Below w.heap.size w w'))
      case atStart => exact ⟨0, cs0, rfl, Nat.zero_le _, ⟨rfl⟩, HCS, ⟨fun j _ hj => HC0.out j hj⟩, ⟨Only.refl _ _ _⟩, HB3⟩
      case round =>
        obtain ⟨i, cs, rfl, hi, HK, HB, HCC, HO, HBW⟩ := hrel
        by_cases hlt : i < acts.length
        · obtain ⟨k1, rfl⟩ : ∃ k1, gk = k1 + 1 := ⟨gk - 1, by have := HK.out; omega⟩
          have HK1 := Aside0.mk (show k1 = acts.length - (i + 1) by have := HK.out; omega)
          obtain ⟨x, hx⟩ : ∃ x, (acts.getD i (0, 0)).1 = x := ⟨_, rfl⟩
          have hc1 := HCC.out i (Nat.le_refl _) hlt
          rw [hx] at hc1
          obtain ⟨y0, y0f⟩ := blkc HB.out (i * 2) hc1
          have HB1 := Aside0.mk (blk_set HB.out (i * 2) (.int .i64 (wrap64 (x + 1))))
          have HO1 := Aside0.mk (HO.out.setCell (p := ⟨go, i * 2, none⟩) (.inl HT.out) (.int .i64 (wrap64 (x + 1))))
          have HC1 := Aside0.mk (show ∀ j, i + 1 ≤ j → j < acts.length → (cs.setIfInBounds (i * 2) (.int .i64 (wrap64 (x + 1))))[j * 2]? = some (.int .i64 (acts.getD j (0, 0)).1) from fun j hj hj2 => by
            rw [Array.getElem?_setIfInBounds_ne (by omega)]
            exact HCC.out j (by omega) hj2)
          have HBW1 := Aside0.mk (HBW.out.setCell (p := ⟨go, i * 2, none⟩) hgo (.int .i64 (wrap64 (x + 1))))
          clear HK hx hc1 HB HCC HO
          go_wp2
          go_roundg k1
          case measure => omega
          case rel => exact ⟨i + 1, _, by first | rfl | (congr 1; omega) | (simp; done), hlt, HK1, HB1, HC1, HO1, HBW1⟩
        · obtain rfl : i = acts.length := by omega
          go_wp2
          go_meet
          case rel => exact ⟨HO, HBW⟩
  case rest =>
    obtain ⟨HO4, HBW4⟩ := hcut
    obtain ⟨w4, rfl⟩ : ∃ wo : World, wo = wc := ⟨_, rfl⟩
    have hs4 : w3.heap.size ≤ w4.heap.size := HO4.out.size
    have hno : ∀ t, TB k t → ¬ t = Tag.other := fun t ht e_ => by subst e_; rcases ht with h | h | h | h <;> first | exact h | cases h
    have BT4 := Aside0.mk (BT3.out.move HO4.out (Ext.refl _ _) (by simp) hno)
    have A4 := Aside0.mk (A3'.out.move HO4.out (Ext.refl _ _) (by simp) (by simp) (by simp))
    have DA4 := Aside0.mk (DA3.out.move HO4.out (Ext.refl _ _) (by simp))
    have OW4 := Aside0.mk (Only.of_below HBW4.out (TB k) g)
    clear HO4 HBW4 BT3 DA3 A3' OT3 HRO HW3 HB3 HO2 HB2 HA HH
    generalize hP : (Value.slice P acts.length cp) = vP
    clear hP
    obtain ⟨y0, _⟩ := blkc BT4.out.blk 0 rfl
    by_cases hlt : S.tasks.length < 64
    · have hadd := add_calls BT4.out.prog hlt A4.out
      have HADD := Aside0.mk hadd
      have HLT := Aside0.mk hlt
      clear hadd
      go_upto_region 10 with (go_at_call 24; refine HADD.out.mono ?_; rintro e w5 ⟨rfl, g5, he, ho, hl5⟩; have HE5 := Aside0.mk he; have HO5 := Aside0.mk ho; have HL5 := Aside0.mk hl5; clear he ho hl5)
      have hnt : ∀ t, ¬ (t = Tag.loop k ∨ t = .tasks k ∨ t = .waits k) → ¬ TAdd k t := fun t h => h
      have HBK5 := Aside0.mk (HO5.out.blk BT4.out.blk (by rw [BT4.out.tag]; unfold TAdd; simp))
      have HRW5 := Aside0.mk (BT4.out.acts.move rfl HO5.out HE5.out (by unfold TAdd; simp))
      have HRF5 := Aside0.mk (BT4.out.refr.move HO5.out HE5.out (by unfold TAdd; simp) (fun t ht e_ => by rcases e_ with h | h | h <;> subst h <;> exact ht))
      have DA5 := Aside0.mk (DA4.out.move HO5.out HE5.out (by unfold TAdd; simp))
      have TG5 := Aside0.mk ((HE5.out q (blk_lt BT4.out.blk)).trans BT4.out.tag)
      have EW5 := Aside0.mk (show Ext w.heap.size g g5 from E3.out.trans (fun j hj => HE5.out j (Nat.lt_of_lt_of_le hj (by omega))) (Nat.le_refl _))
      have HSZ5 := Aside0.mk (show w.heap.size ≤ w5.heap.size from Nat.le_trans (by omega : w.heap.size ≤ w4.heap.size) HO5.out.size)
      have OW5 := Aside0.mk (OW4.out.trans (HO5.out.mono (T' := TB k) (fun t ht => .inl (by rcases ht with h | h | h <;> subst h <;> rfl))) E3.out)
      obtain ⟨A0, c0, A1, c1, A2, c2, At, ct, rbs, hrf⟩ := HRF5.out
      have RF5 := Aside0.mk hrf
      have hbl := BT4.out.prog.lens
      have HBL := Aside0.mk hbl
      obtain ⟨z0, _⟩ := blkc HBK5.out 0 rfl
      obtain ⟨z1, z1f⟩ := blkc HBK5.out 1 rfl
      obtain ⟨z2, _⟩ := blkc HBK5.out 2 rfl
      obtain ⟨r3, _⟩ := blkc hrf.blk 3 rfl
      have hd64 : decide (64 ≤ (S.tasks.length : Int)) = false := decide_eq_false (by omega)
      clear hrf HADD BT4 A4 DA4 HE5 HO5 HRF5 OW4 E3 hbl y0
      go_upto_region 12 with (fail)
      go_upto_region 13 with ((with_reducible refine gate_builtin (b := .append) (xs := #[.tmp 62, .tmp 64]) rfl ?_); at_builtin; refine Kd.R_append kPtr (w0 := w5) 0 rfl (.tmp 62) (.tmp 64) 35 59 (.pointer none) 8 rfl Try.underlying35 info59 rfl (by decide) (by omega) (.slice Aa bs.length ca) bs b [.pointer (some ⟨b, 0, none⟩)] (fun _ => True) (fun _ => False) rfl rfl rfl (fun _ h => h.elim) (fun _ _ => trivial) HRW5.out.1 (Below.refl _ _) (Nat.zero_le _) (by have := HBL.out; omega) ?_; intro v6 w6 ho6 hb6 hg6 hat6; obtain ⟨Aa2, ca2, ev6⟩ := Kd.R_slice ho6; rw [show (bs ++ [b]).length = bs.length + 1 by simp] at ev6; subst ev6; have HO6 := Aside0.mk ho6; have HG6 := Aside0.mk hg6; have HAT6 := Aside0.mk hat6; have BK6 := blk_grown HBK5.out hg6 (Kd.R_ne HRW5.out.1 HBK5.out (by decide)); obtain ⟨u1, u1f⟩ := blkc BK6 1 rfl; clear ho6 hb6 hg6 hat6)
      clear u1 u1f z0 z1 z1f z2 r3
      have BK7 := Aside0.mk (blk_put BK6 1 (.slice Aa2 (bs.length + 1) ca2) rfl)
      have OO7 := Aside0.mk (((Only.refl (fun t => t = .both k ∨ t = .bacts k) g5 w5).grown HG6.out (fun j hj => .inl (.inr (HRW5.out.2 j hj)))).setCell (p := ⟨q, 1, none⟩) (.inl (.inl TG5.out)) (.slice Aa2 (bs.length + 1) ca2))
      have E67 := Aside0.mk (show Ext w5.heap.size g5 (putv g5 (.slice Aa2 (bs.length + 1) ca2) (.bacts k)) from putv_ext (fun j hj hn => by
        rcases HAT6.out with hat | ⟨j', hj', hle⟩
        · exact HRW5.out.2 j (by rw [← hat]; exact hj)
        · rw [hj'] at hj; injection hj with hj; omega))
      have RW7 := Aside0.mk (show Row kPtr 59 (w6.setCell ⟨q, 1, none⟩ (.slice Aa2 (bs.length + 1) ca2)) (putv g5 (.slice Aa2 (bs.length + 1) ca2) (.bacts k)) (.bacts k) (.slice Aa2 (bs.length + 1) ca2) (bs ++ [b]) from ⟨Kd.R_set HO6.out BK6 (by decide) 1 _, fun j hj => putv_at hj⟩)
      have RF7 := Aside0.mk (RF5.out.move OO7.out E67.out (by simp) (fun t ht e_ => by rcases e_ with h | h <;> subst h <;> exact ht))
      have HL7 := Aside0.mk (HL5.out.move OO7.out E67.out (by simp) (fun t ht e_ => by rcases e_ with h | h <;> subst h <;> exact ht))
      have DA7 := Aside0.mk (DA5.out.move OO7.out E67.out (by simp))
      have TG7 := Aside0.mk ((E67.out q (blk_lt HBK5.out)).trans TG5.out)
      have OW7 := Aside0.mk (OW5.out.trans (OO7.out.mono (T' := TB k) (fun t ht => .inr (.inr ht))) EW5.out)
      have EW7 := Aside0.mk (show Ext w.heap.size g (putv g5 (.slice Aa2 (bs.length + 1) ca2) (.bacts k)) from EW5.out.trans (fun j hj => E67.out j (Nat.lt_of_lt_of_le hj HSZ5.out)) (Nat.le_refl _))
      have HSZ7 := Aside0.mk (show w.heap.size ≤ (w6.setCell ⟨q, 1, none⟩ (.slice Aa2 (bs.length + 1) ca2)).heap.size from Nat.le_trans HSZ5.out OO7.out.size)
      clear HBK5 HRW5 HL5 RF5 DA5 TG5 EW5 OW5 BK6 HO6 HG6 HAT6 OO7 E67 HSZ5
      generalize putv g5 (.slice Aa2 (bs.length + 1) ca2) (.bacts k) = g7 at RW7 RF7 HL7 DA7 TG7 OW7 EW7
      generalize w6.setCell ⟨q, 1, none⟩ (.slice Aa2 (bs.length + 1) ca2) = w7 at BK7 RW7 RF7 HL7 DA7 TG7 OW7 EW7 HSZ7 ⊢
      have z2 := (blkc BK7.out 2 rfl).1
      have r3 := (blkc RF7.out.blk 3 rfl).1
      have hown0 := ptr_own RF7.out.tasks.1
      have hrl := (Kd.R_reads' RF7.out.tasks.1).1
      rw [hrl] at hown0
      have hown := Aside0.mk hown0
      clear hown0
      have HRL := Aside0.mk hrl
      obtain ⟨i76, hi0, hz0, hz1, hz2⟩ := info_parts info76
      have HLN := Aside0.mk (show rbs.length + 1 ≤ maxLen by unfold maxLen; omega)
      have HBN := Aside0.mk (show (rbs.length + 1) * 8 ≤ 140737488355328 by omega)
      have HI := Aside0.mk hi0
      have HZ0 := Aside0.mk hz0
      have HZ1 := Aside0.mk hz1
      have HZ2 := Aside0.mk hz2
      rw [hrl] at r3
      clear hi0 hz0 hz1 hz2 hrl
      refine start_ (n := 19) (S := fun w' => w'.cell? ⟨q, 2, none⟩ = some (.pointer (some ⟨pr, 0, none⟩)) ∧ w'.cell? ⟨pr, 3, none⟩ = some (.slice At rbs.length ct)) (ds := [18]) #[false, false, false, false, false, false, false, false, false, false, false, false, false, false, false, false, false, false, false] (by kernel_rfl) rfl rfl ⟨z2, r3⟩ (fun hHeld => ?_)
      refine pure_ (i := 0) (N := some 68) (v := ?_) (a' := ?_) #[true, false, false, false, false, false, false, false, false, false, false, false, false, false, false, false, false, false, false] rfl rfl (by kernel_rfl) (fun _ _ _ h => h) (Or.inl ⟨by rfl, ?_⟩) ?_ ?_
      rotate_left
      · intro w'
        go_simp
        with_reducible rfl
      rotate_left
      · simp only [Act.put, List.setIfInBounds_toArray, List.set_cons_zero, List.set_cons_succ, i64_w, i32_w]
        rfl
      refine pure_ (i := 1) (N := some 69) (v := ?_) (a' := ?_) #[true, true, false, false, false, false, false, false, false, false, false, false, false, false, false, false, false, false, false] rfl rfl (by kernel_rfl) (fun _ _ _ h => h) (Or.inl ⟨by rfl, ?_⟩) ?_ ?_
      rotate_left
      · intro w'
        go_simp
        with_reducible rfl
      rotate_left
      · simp only [Act.put, List.setIfInBounds_toArray, List.set_cons_zero, List.set_cons_succ, i64_w, i32_w]
        rfl
      refine pure_ (i := 2) (N := some 70) (v := ?_) (a' := ?_) #[true, true, true, false, false, false, false, false, false, false, false, false, false, false, false, false, false, false, false] rfl rfl (by kernel_rfl) (fun _ _ _ h => h) (Or.inl ⟨by rfl, ?_⟩) ?_ ?_
      rotate_left
      · intro w'
        go_simp
        with_reducible rfl
      rotate_left
      · simp only [Act.put, List.setIfInBounds_toArray, List.set_cons_zero, List.set_cons_succ, i64_w, i32_w]
        rfl
      refine pure_ (i := 4) (N := some 72) (v := ?_) (a' := ?_) #[true, true, true, false, true, false, false, false, false, false, false, false, false, false, false, false, false, false, false] rfl rfl (by kernel_rfl) (fun _ _ _ h => h) (Or.inl ⟨by rfl, ?_⟩) ?_ ?_
      rotate_left
      · intro w'
        go_simp
        with_reducible rfl
      rotate_left
      · simp only [Act.put, List.setIfInBounds_toArray, List.set_cons_zero, List.set_cons_succ, i64_w, i32_w]
        rfl
      refine pure_ (i := 5) (N := some 73) (v := ?_) (a' := ?_) #[true, true, true, false, true, true, false, false, false, false, false, false, false, false, false, false, false, false, false] rfl rfl (by kernel_rfl) (fun _ _ _ h => h) (Or.inl ⟨by rfl, ?_⟩) ?_ ?_
      rotate_left
      · intro w'
        go_simp
        with_reducible rfl
      rotate_left
      · simp only [Act.put, List.setIfInBounds_toArray, List.set_cons_zero, List.set_cons_succ, i64_w, i32_w]
        rfl
      refine pure_ (i := 6) (N := some 74) (v := ?_) (a' := ?_) #[true, true, true, false, true, true, true, false, false, false, false, false, false, false, false, false, false, false, false] rfl rfl (by kernel_rfl) (fun _ _ _ h => h) (Or.inl ⟨by rfl, ?_⟩) ?_ ?_
      rotate_left
      · intro w'
        go_simp
        with_reducible rfl
      rotate_left
      · simp only [Act.put, List.setIfInBounds_toArray, List.set_cons_zero, List.set_cons_succ, i64_w, i32_w]
        rfl
      refine pure_ (i := 11) (N := some 79) (v := ?_) (a' := ?_) #[true, true, true, false, true, true, true, false, false, false, false, true, false, false, false, false, false, false, false] rfl rfl (by kernel_rfl) (fun _ _ _ h => h) (Or.inl ⟨by rfl, ?_⟩) ?_ ?_
      rotate_left
      · intro w'
        go_simp
        with_reducible rfl
      rotate_left
      · simp only [Act.put, List.setIfInBounds_toArray, List.set_cons_zero, List.set_cons_succ, i64_w, i32_w]
        rfl
      refine pure_ (i := 12) (N := some 80) (v := ?_) (a' := ?_) #[true, true, true, false, true, true, true, false, false, false, false, true, true, false, false, false, false, false, false] rfl rfl (by kernel_rfl) (fun _ _ _ h => h) (Or.inl ⟨by rfl, ?_⟩) ?_ ?_
      rotate_left
      · intro w'
        go_simp
        with_reducible rfl
      rotate_left
      · simp only [Act.put, List.setIfInBounds_toArray, List.set_cons_zero, List.set_cons_succ, i64_w, i32_w]
        rfl
      refine take_ (i := 3) (N := some 71) (v := ?_) (a' := ?_) #[true, true, true, true, true, true, true, false, false, false, false, true, true, false, false, false, false, false, false] rfl rfl (by kernel_rfl) (fun _ _ _ h => h) (Or.inl ⟨by rfl, ?_⟩) hHeld ?_ ?_
      rotate_left
      · rintro w' ⟨s0, s1⟩
        go_simp
        with_reducible rfl
      rotate_left
      · simp only [Act.put, List.setIfInBounds_toArray, List.set_cons_zero, List.set_cons_succ, i64_w, i32_w]
        rfl
      refine take_ (i := 7) (N := some 75) (v := ?_) (a' := ?_) #[true, true, true, true, true, true, true, true, false, false, false, true, true, false, false, false, false, false, false] rfl rfl (by kernel_rfl) (fun _ _ _ h => h) (Or.inl ⟨by rfl, ?_⟩) hHeld ?_ ?_
      rotate_left
      · rintro w' ⟨s0, s1⟩
        go_simp
        with_reducible rfl
      rotate_left
      · simp only [Act.put, List.setIfInBounds_toArray, List.set_cons_zero, List.set_cons_succ, i64_w, i32_w]
        rfl
      refine pure_ (i := 8) (N := some 76) (v := ?_) (a' := ?_) #[true, true, true, true, true, true, true, true, true, false, false, true, true, false, false, false, false, false, false] rfl rfl (by kernel_rfl) (fun _ _ _ h => h) (Or.inl ⟨by rfl, ?_⟩) ?_ ?_
      rotate_left
      · intro w'
        go_simp
        with_reducible rfl
      rotate_left
      · simp only [Act.put, List.setIfInBounds_toArray, List.set_cons_zero, List.set_cons_succ, i64_w, i32_w]
        rfl
      refine pure_ (i := 9) (N := some 77) (v := ?_) (a' := ?_) #[true, true, true, true, true, true, true, true, true, true, false, true, true, false, false, false, false, false, false] rfl rfl (by kernel_rfl) (fun _ _ _ h => h) (Or.inl ⟨by rfl, ?_⟩) ?_ ?_
      rotate_left
      · intro w'
        go_simp
        with_reducible rfl
      rotate_left
      · simp only [Act.put, List.setIfInBounds_toArray, List.set_cons_zero, List.set_cons_succ, i64_w, i32_w]
        rfl
      refine take_ (i := 10) (N := some 78) (v := ?_) (a' := ?_) #[true, true, true, true, true, true, true, true, true, true, true, true, true, false, false, false, false, false, false] rfl rfl (by kernel_rfl) (fun _ _ _ h => h) (Or.inl ⟨by rfl, ?_⟩) hHeld ?_ ?_
      rotate_left
      · rintro w' ⟨s0, s1⟩
        go_simp
        with_reducible rfl
      rotate_left
      · simp only [Act.put, List.setIfInBounds_toArray, List.set_cons_zero, List.set_cons_succ, i64_w, i32_w]
        rfl
      refine one_ (i := 13) (N := some 81) #[true, true, true, true, true, true, true, true, true, true, true, true, true, true, false, false, false, false, false] rfl rfl (by kernel_rfl) (by decide) (fun K hK => ?_)
      refine value_ (w1 := ?_) (v := ?_) (by rfl) rfl ?_ ?_
      rotate_left 2
      · go_simp
        constructor
        · rfl
        · rfl
      refine hK.out _ _ ⟨(pw_cell_below (by first | exact below_alloc (Below.refl _ _) _ | exact below_drew (below_alloc (Below.refl _ _) _)) z2), (pw_cell_below (by first | exact below_alloc (Below.refl _ _) _ | exact below_drew (below_alloc (Below.refl _ _) _)) r3)⟩ (fun hHeld => ?_)
      clear hK K
      refine norm_ (a' := ?_) ?_ ?_
      rotate_left
      · show Act.put _ (some 81) _ = _
        simp only [Act.put, List.setIfInBounds_toArray, List.set_cons_zero, List.set_cons_succ, i64_w, i32_w]
        rfl
      refine one_ (i := 14) (N := some 82) #[true, true, true, true, true, true, true, true, true, true, true, true, true, true, true, false, false, false, false] rfl rfl (by kernel_rfl) (by decide) (fun K hK => ?_)
      refine value_ (w1 := ?_) (v := ?_) (by rfl) rfl ?_ ?_
      rotate_left 2
      · go_simp
        constructor
        · rfl
        · rfl
      refine hK.out _ _ ⟨(pw_cell_below (by first | exact below_alloc (below_alloc (Below.refl _ _) _) _ | exact below_drew (below_alloc (below_alloc (Below.refl _ _) _) _)) z2), (pw_cell_below (by first | exact below_alloc (below_alloc (Below.refl _ _) _) _ | exact below_drew (below_alloc (below_alloc (Below.refl _ _) _) _)) r3)⟩ (fun hHeld => ?_)
      clear hK K
      refine norm_ (a' := ?_) ?_ ?_
      rotate_left
      · show Act.put _ (some 82) _ = _
        simp only [Act.put, List.setIfInBounds_toArray, List.set_cons_zero, List.set_cons_succ, i64_w, i32_w]
        rfl
      refine one_ (i := 15) (N := some 83) #[true, true, true, true, true, true, true, true, true, true, true, true, true, true, true, true, false, false, false] rfl rfl (by kernel_rfl) (by decide) (fun K hK => ?_)
      refine step_append_lies _ (by rfl) (.tmp 78) (.tmp 82) 73 (by rfl) 0 76 i76 _ 1 8 Try.underlying73 HI.out HZ0.out HZ1.out HZ2.out rfl (by omega) (.slice At rbs.length ct) rbs.length (encs (fun b : Nat => Value.pointer (some ⟨b, 0, none⟩)) rbs) (by rfl) (by first | exact ((hown.out.alloc _).alloc _).drew | exact (World.ownsRow.alloc (w := w7.drew) hown.out _).alloc _) ⟨w7.heap.size + 1, 0, none⟩ 1 1 [.pointer (some ⟨w7.heap.size, 0, none⟩)] (by rfl) (by rfl) (by have := World.news_of_block (cs := #[.pointer (some ⟨w7.heap.size, 0, none⟩)]) (t := 76) (fr := (0, 0)) (heap_alloc_new (w7.alloc (.cells #[.slice A acts.length c, .int .i64 0, .int .i64 0, .slice none 0 0] 78)) (.cells #[.pointer (some ⟨w7.heap.size, 0, none⟩)] 76)); rw [World.size_alloc] at this; exact this) (by simp [Value.oneCell']) (by omega) HLN.out HBN.out (Nat.zero_le _) (w7.heap.size + 2) (by simp) ?_
      intro gg cap w8 hown2 hgrow hat hlt2
      obtain ⟨B8, g8, hX, hO, hRF, ct3, hc3⟩ := radd_end (W1 := (w7.alloc (.cells #[.slice A acts.length c, .int .i64 0, .int .i64 0, .slice none 0 0] 78)).alloc (.cells #[.pointer (some ⟨w7.heap.size, 0, none⟩)] 76)) RF7.out HLT.out DA7.out HC.out (below_alloc (below_alloc (Below.refl _ _) _) _) (blk_alloc (blk_new w7 _) _) (Nat.le_refl _) (by rw [HRL.out]; exact ⟨hgrow.os, hgrow.tape, hgrow.output, hgrow.size, hgrow.block⟩) (ptr_R hown2) (by rw [HRL.out]; exact hat.elim (fun h => .inl h.symm) (fun h => .inr ⟨gg, rfl, by omega⟩))
      have bk8 := blk_grown (g := q) (by first | exact blk_drew (blk_alloc (blk_alloc BK7.out _) _) | exact blk_alloc (blk_alloc BK7.out _) _) hgrow (by rw [← HRL.out]; exact Kd.R_ne RF7.out.tasks.1 BK7.out (by decide))
      have z2a := (blkc bk8 2 rfl).1
      have r3b := (blkc B8 3 rfl).1
      have r3f := (blkc B8 3 rfl).2
      have r3a : w8.cell? ⟨pr, 3, none⟩ = some (.slice At rbs.length ct) := by rw [← HRL.out]; exact r3b
      refine hK.out _ _ ⟨z2a, r3a⟩ (fun hHeld => ?_)
      clear hK K
      refine norm_ (a' := ?_) ?_ ?_
      rotate_left
      · show Act.put _ (some 83) _ = _
        simp only [Act.put, List.setIfInBounds_toArray, List.set_cons_zero, List.set_cons_succ, i64_w, i32_w]
        rfl
      refine pure_ (i := 16) (N := some 84) (v := ?_) (a' := ?_) #[true, true, true, true, true, true, true, true, true, true, true, true, true, true, true, true, true, false, false] rfl rfl (by kernel_rfl) (fun _ _ _ h => h) (Or.inl ⟨by rfl, ?_⟩) ?_ ?_
      rotate_left
      · intro w'
        go_simp
        with_reducible rfl
      rotate_left
      · simp only [Act.put, List.setIfInBounds_toArray, List.set_cons_zero, List.set_cons_succ, i64_w, i32_w]
        rfl
      refine pure_ (i := 17) (N := some 85) (v := ?_) (a' := ?_) #[true, true, true, true, true, true, true, true, true, true, true, true, true, true, true, true, true, true, false] rfl rfl (by kernel_rfl) (fun _ _ _ h => h) (Or.inl ⟨by rfl, ?_⟩) ?_ ?_
      rotate_left
      · intro w'
        go_simp
        with_reducible rfl
      rotate_left
      · simp only [Act.put, List.setIfInBounds_toArray, List.set_cons_zero, List.set_cons_succ, i64_w, i32_w]
        rfl
      refine last_ (i := 18) (N := none) #[true, true, true, true, true, true, true, true, true, true, true, true, true, true, true, true, true, true, true] rfl rfl (by kernel_rfl) (by decide) (fun K hK => ?_)
      refine skip_ (w1 := ?_) (by rfl) rfl ?_ ?_
      rotate_left
      · go_simp
        rfl
      refine hK.out _ _ ?_
      clear hK K
      refine done_ (by kernel_rfl) ?_
      have hqp : q ≠ pr := fun e => by have h1 := TG7.out; rw [e, RF7.out.tag] at h1; exact absurd h1 (by simp)
      have bk9 := blk_far bk8 (p := ⟨pr, 3, none⟩) hqp (.slice (some ⟨gg, 0, none⟩) (rbs.length + 1) cap)
      have BK9 := Aside0.mk bk9
      have HOE := Aside0.mk hO
      have HRE := Aside0.mk hRF
      have HXE := Aside0.mk hX
      have z2c := (blkc bk9 2 rfl).1
      clear z2a z2 r3 r3b r3f r3a bk8 B8 bk9 hO hRF hX hHeld hgrow hat hown2
      generalize w8.setCell ⟨pr, 3, none⟩ (.slice (some ⟨gg, 0, none⟩) (rbs.length + 1) cap) = w9 at BK9 HOE HRE z2c hc3 ⊢
      go_wp2
      go_ret
      have RW9 := RW7.out.move rfl HOE.out HXE.out (by unfold TRadd; simp)
      have HL9 := HL7.out.move HOE.out HXE.out (by unfold TRadd; simp) (fun t ht e_ => by unfold TRadd at e_; rcases e_ with h | h <;> subst h <;> exact ht)
      have TG9 := (HXE.out q (blk_lt BK7.out)).trans TG7.out
      refine ⟨rfl, g8, EW7.out.trans (fun j hj => HXE.out j (Nat.lt_of_lt_of_le hj HSZ7.out)) (Nat.le_refl _), OW7.out.trans (HOE.out.mono (T' := TB k) (fun t ht => .inr (.inl (by rcases ht with h | h <;> subst h <;> rfl)))) EW7.out, ?_⟩
      have hbl2 : (bs ++ [b]).length = bs.length + 1 := by simp
      have BK10 := HOE.out.blk BK7.out (by rw [TG7.out]; unfold TRadd; simp)
      rw [← hbl2] at BK10 RW9
      exact ⟨pl, pr, Aa2, ca2, bs ++ [b], BK10, RW9, HL9, HRE.out, TG9⟩
    · have HN64 := Aside0.mk (show addF S acts = S from addF_no hlt)
      have HAF := Aside0.mk (addFull_calls BT4.out.prog (by omega) b)
      obtain ⟨A0, c0, A1, c1, A2, c2, At, ct, rbs, hrf⟩ := BT4.out.refr
      obtain ⟨z2, _⟩ := blkc BT4.out.blk 2 rfl
      obtain ⟨r3, _⟩ := blkc hrf.blk 3 rfl
      have hd64 : decide (64 ≤ (S.tasks.length : Int)) = true := decide_eq_true (by omega)
      clear hrf
      go_wp2_with (go_at_call 24; refine HAF.out.mono ?_; rintro e w5 ⟨rfl, rfl⟩)
      go_ret
      exact ⟨rfl, g3, E3.out, OW4.out, by rw [HN64.out]; exact ⟨_, _, _, _, _, BT4.out⟩⟩
end
end Go.Proofs.Ytompgphlinjglaa.P
