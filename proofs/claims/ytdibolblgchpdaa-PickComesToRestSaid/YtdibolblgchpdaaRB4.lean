/- Contract, proved by hand: behind (a version behind a job). -/
import Derived.Test.YtdibolblgchpdaaRB3
import Derived.Deep.RegionHeld3
import Derived.Deep.DeepCutAuto
import Derived.Deep.RegionLaw
namespace Go.Proofs.Ytdibolblgchpdaa.P
open Go.RowKit Go.Proofs.YtdibolblgchpdaaW.PrintWords Go.Proofs.YtdibolblgchpdaaW.PrintLast Go.Proofs.YtdibolblgchpdaaW.PrintMore
attribute [local go_sem] Oper.semAt_some
attribute [local go_sem high] leqS gtrS geqS
set_option linter.unusedVariables false
set_option linter.unusedSimpArgs false
/-- The table that a job makes. -/
def tabF (ls : List (List S44)) (ins : List S63) (number fewer : Int) : S44 :=
  ⟨number, if (accA ls ins ls.length 0).s > 1048576 then 1048576 else (accA ls ins ls.length 0).s, if (accA ls ins ls.length 0).c - fewer % (accA ls ins ls.length 0).c > 65536 then 65536 else (accA ls ins ls.length 0).c - fewer % (accA ls ins ls.length 0).c, (accA ls ins ls.length 0).a, (accA ls ins ls.length 0).b⟩
/-- The version behind a job. -/
def nextV (ls : List (List S44)) (ins : List S63) (n : Nat) (number fewer : Int) : List (List S44) :=
  resV (lastV (outA ls ins ls.length 0) (n + 1) (lessN (accA ls ins ls.length 0).a (outA ls ins ls.length 0 (n + 1))) (tabF ls ins number fewer))
set_option maxHeartbeats 16000000 in
set_option maxRecDepth 100000 in
theorem behind_calls (A : Option Addr) (c : Nat) (ls : List (List S44)) (n : Nat) (AI : Option Addr) (ci : Nat) (ins : List S63) (bt : Bool) (number fewer : Int) (w : World) (hC : Kd.C (Kd.slice 44 k44) w A ls.length ls) (hI : Kd.C k63 w AI ins.length ins)
    (hls : ls.length ≤ 7) (hfl : ls.flatten.length ≤ 1024) (hb : ∀ l ∈ ls, ∀ t ∈ l, 1 ≤ t.f1 ∧ t.f1 ≤ 1048576 ∧ 1 ≤ t.f2 ∧ t.f2 ≤ 65536) (hins : ins.length ≤ 4096) (hn5 : n ≤ 5) (hfe : 0 ≤ fewer) (hfe2 : fewer ≤ 9223372036854775807) (hgo : goneTo ls ins ls.length ≠ []) :
    Calls Try.prog 19 #[.agg #[.slice A ls.length c], .agg #[.int .i64 n, .slice AI ins.length ci, .bool bt], .int .i64 number, .int .i64 fewer] w fun e w' => ∃ A' c', e = .returned (.tuple #[.agg #[.slice A' (nextV ls ins n number fewer).length c'], .bool true]) ∧ (nextV ls ins n number fewer).length ≤ c' ∧ Kd.F (Kd.slice 44 k44) w' (fun b => w.heap.size ≤ b) A' (nextV ls ins n number fewer).length (nextV ls ins n number fewer) ∧ Below w.heap.size w w' := by
  have hmk : ∀ W : World, (Instr.makeSlice 22 (.int .i64 7) (.int .i64 7)).run Try.prog W = .ok (.slice (some ⟨W.heap.size, 0, none⟩) 7 7) (W.alloc (.cells ((List.range 7).map fun _ => Value.slice none 0 0).toArray 42)) := make7
  have HC := Aside0.mk hC
  have HI := Aside0.mk hI
  have HFL := Aside0.mk hfl
  have HBD := Aside0.mk hb
  have HGO := Aside0.mk hgo
  clear hC hI hb hgo
  go_enter Try.func19, Try.ntmps19
  go_upto_region 4 with (fail)
  have HS := Aside0.mk (bst_start w #[.slice A ls.length c] #[.int .i64 n, .slice AI ins.length ci, .bool bt])
  have hzero : outA ls ins 0 0 = fun _ => [] := outA_zero
  rw [← hzero] at HS
  clear hzero hmk
  generalize (((((w.alloc (.cells #[.slice A ls.length c] 24)).alloc (.cells #[.int .i64 n, .slice AI ins.length ci, .bool bt] 33)).alloc (.cells #[.slice none 0 0] 24)).alloc (.cells #[.slice none 0 0, .slice none 0 0, .slice none 0 0, .slice none 0 0, .slice none 0 0, .slice none 0 0, .slice none 0 0] 42)).alloc (.cells #[.slice (some ⟨w.heap.size + 1 + 1 + 1, 0, none⟩) 7 7] 24)) = W0 at HS ⊢
  obtain ⟨p5, hp5⟩ : ∃ p, w.heap.size + 1 = p := ⟨_, rfl⟩
  obtain ⟨p8, hp8⟩ : ∃ p, w.heap.size + 1 + 1 = p := ⟨_, rfl⟩
  obtain ⟨R, hR⟩ : ∃ p, w.heap.size + 1 + 1 + 1 = p := ⟨_, rfl⟩
  obtain ⟨q, hq⟩ : ∃ p, w.heap.size + 1 + 1 + 1 + 1 = p := ⟨_, rfl⟩
  rw [hq, hR, hp8, hp5] at HS ⊢
  have H8 := Aside0.mk (show p8 ≠ q ∧ w.heap.size ≤ p8 ∧ w.heap.size ≤ q by omega)
  clear hp5 hp8 hR hq
  obtain ⟨J, hJ⟩ : ∃ J : Array Value, #[.int .i64 n, .slice AI ins.length ci, .bool bt] = J := ⟨_, rfl⟩
  rw [hJ] at HS
  have HJ := Aside0.mk hJ
  have c4 := (blkc HS.out.b4 0 rfl).1
  clear hJ
  have hlm : ls.length ≤ 9223372036854775807 := by omega
  go_upto_block 0 with (fail)
  refine behind_levels _ _ rfl A c ls n AI ci ins bt number fewer w W0 p5 p8 R q J HJ HC.out HI.out hls hfl HBD.out hins HS (Aside0.mk (fun _ _ N _ _ h => by cases N <;> exact h)) (Aside0.mk ?_)
  intro _ _ _ _ _ _ _ _ _ _ _ _ _ _ _ _ _ _ _ _ _ _ _ _ _ _ _ _ _ _ _ _ _ _ _ _ _ _ _ _ _ _ _ _ _ _ _ _ _ _ _ _ _ _ _ _ _ _ _ _ _ _ _ _ _ _ _ _ _ _ _ _ _ _ _ _ _ _ _ _ x wz hx hwz
  dsimp only [Exit.then]
  have HX := Aside0.mk hx
  clear HS c4 hx
  have hxb := accA_bd ls ins HBD.out hfl ls.length 0 (Nat.le_refl _)
  have hx1 := accA_pos ls ins HBD.out HGO.out
  rw [← HX.out] at hxb hx1
  obtain ⟨xb1, xb2, xb3, xb4⟩ := hxb
  have cl : wz.cell? ⟨p5, 0, none⟩ = some (.int .i64 n) := by rw [blk_cell hwz.b5, ← HJ.out]; rfl
  have z0 : (x.c == 0) = false := beq_eq_false_iff_ne.mpr (by omega)
  have hr0 := Int.emod_nonneg fewer (show x.c ≠ 0 by omega)
  have hr1 := Int.emod_lt_of_pos fewer (show 0 < x.c by omega)
  have hwr : wrap64 (x.c - fewer % x.c) = x.c - fewer % x.c := by unfold wrap64; omega
  have hn0 : decide ((n : Int) < 0) = false := decide_eq_false (by omega)
  have hn6 : decide ((n : Int) ≥ 6) = false := decide_eq_false (by omega)
  go_upto_region 28 with (fail)
  go_cut [11] (fun v11 wc => ∃ c1 : Int, v11 = .int .i64 c1 ∧ 1 ≤ c1 ∧ c1 ≤ 134217728 ∧ Aside0 (c1 = x.c - fewer % x.c) ∧ wz = wc)
  case first =>
    go_wp2
    go_meet
    case rel => exact ⟨x.c - fewer % x.c, by first | rfl | rw [hwr], by omega, by omega, ⟨rfl⟩, rfl⟩
  case rest =>
    obtain ⟨c1, rfl, hc1, hc2, HC1, rfl⟩ := hcut
    clear hr0 hr1 hwr z0 hn0 hn6
    go_upto_if 128 with (fail)
    go_cut [12] (fun v12 wc => ∃ s1 : Int, v12 = .int .i64 s1 ∧ Aside0 (s1 = if x.s > 1048576 then 1048576 else x.s) ∧ wz = wc)
    case first =>
      by_cases hs : 1048576 < x.s
      · go_wp2
        go_meet
        case rel => exact ⟨1048576, rfl, ⟨by rw [if_pos hs]⟩, rfl⟩
      · go_wp2
        go_meet
        case rel => exact ⟨x.s, rfl, ⟨by rw [if_neg (by omega)]⟩, rfl⟩
    case rest =>
      obtain ⟨s1, rfl, HS1, rfl⟩ := hcut
      go_upto_if 130 with (fail)
      go_cut [11] (fun v11 wc => ∃ c2 : Int, v11 = .int .i64 c2 ∧ Aside0 (c2 = if c1 > 65536 then 65536 else c1) ∧ wz = wc)
      case first =>
        by_cases hs : 65536 < c1
        · go_wp2
          go_meet
          case rel => exact ⟨65536, rfl, ⟨by rw [if_pos hs]⟩, rfl⟩
        · go_wp2
          go_meet
          case rel => exact ⟨c1, rfl, ⟨by rw [if_neg (by omega)]⟩, rfl⟩
      case rest =>
        obtain ⟨cc, rfl, HC2, rfl⟩ := hcut
        have hNB := hwz
        obtain ⟨vs, f, ho⟩ := hwz.rows
        obtain ⟨Ak, ck, ev, hck, hCk⟩ := ho.val (k := n + 1) (by omega)
        obtain ⟨ol, hol⟩ : ∃ o, outA ls ins ls.length 0 (n + 1) = o := ⟨_, rfl⟩
        obtain ⟨ll, hll⟩ : ∃ k, ol.length = k := ⟨_, rfl⟩
        have hll1 : ll ≤ 1024 := by rw [← hll, ← hol]; exact outA_len hfl _ _ _
        rw [hol, hll] at ev hck hCk
        go_upto_region 35 with (fail)
        have HB2 := Aside0.mk (hNB.next (below_alloc (Below.refl _ _) (.cells #[.int .i64 number, .int .i64 s1, .int .i64 cc, .string x.a, .string x.b] 44)))
        have HO2 := Aside0.mk (ho.below (below_alloc (Below.refl _ _) (.cells #[.int .i64 number, .int .i64 s1, .int .i64 cc, .string x.a, .string x.b] 44)))
        have HT2 := Aside0.mk (blk_new wz (.cells #[.int .i64 number, .int .i64 s1, .int .i64 cc, .string x.a, .string x.b] 44))
        have HCK := Aside0.mk (Kd.C_below hCk (below_alloc (Below.refl _ _) (.cells #[.int .i64 number, .int .i64 s1, .int .i64 cc, .string x.a, .string x.b] 44)))
        obtain ⟨T, hT⟩ : ∃ T, wz.heap.size = T := ⟨_, rfl⟩
        rw [hT] at HT2 ⊢
        have HOL := Aside0.mk (And.intro hol hll)
        have HEV := Aside0.mk ev
        clear hNB ho hCk hwz hol hll ev hT cl
        generalize wz.alloc (.cells #[.int .i64 number, .int .i64 s1, .int .i64 cc, .string x.a, .string x.b] 44) = W2 at HB2 HO2 HT2 HCK ⊢
        have HE := Aside0.mk (fun (W : World) (hb : Below W2.heap.size W2 W) => show W.cell? ⟨q, 0, none⟩ = some (.slice (some ⟨R, 0, none⟩) 7 7) ∧ W.cell? ⟨R, n + 1, none⟩ = some (.slice Ak ll ck) from ⟨pw_cell_below hb HO2.out.cellq, by rw [← HEV.out]; exact pw_cell_below hb (HO2.out.cellR (by omega))⟩)
        go_upto_block 6 with (fail)
        go_cut [24] (fun v24 wc => ∃ m : Nat, v24 = .int .i64 m ∧ m ≤ ll ∧ Aside0 (m = lessN x.a ol) ∧ Aside0 (Below W2.heap.size W2 wc))
        case first =>
          obtain ⟨e0, e1⟩ := HE.out W2 (Below.refl _ _)
          go_wp2
          go_loopg [24] ll (fun kq v24 w' => ∃ m : Nat, v24 = .int .i64 m ∧ m ≤ ll ∧ Aside0 (kq = ll - m) ∧ Aside0 (lessN x.a ol = m + lessN x.a (ol.drop m)) ∧ Aside0 (Below W2.heap.size W2 w'))
          case atStart => exact ⟨0, rfl, Nat.zero_le _, ⟨rfl⟩, ⟨by simp⟩, ⟨Below.refl _ _⟩⟩
          case round =>
            clear e0 e1
            obtain ⟨m, rfl, hm, HKm, HLm, HBm⟩ := hrel
            obtain ⟨e0, e1⟩ := HE.out _ HBm.out
            by_cases hml : m < ll
            · obtain ⟨k1, rfl⟩ : ∃ k1, gk = k1 + 1 := ⟨gk - 1, by have := HKm.out; omega⟩
              have HK1 := Aside0.mk (show k1 = ll - (m + 1) by have := HKm.out; omega)
              have hcm := Kd.C_below HCK.out HBm.out
              rw [← HOL.out.2] at hcm
              obtain ⟨ad, ea, y0, y1, y2, y3, y4⟩ := at_T44 hcm (m : Int) (Int.natCast_nonneg _) (by have := HOL.out.2; omega)
              subst ea
              rw [Int.toNat_natCast] at y0 y1 y2 y3 y4
              have hmo : m < ol.length := by rw [HOL.out.2]; exact hml
              rw [rd44_getElem ol m hmo] at y0 y1 y2 y3 y4
              have hst := lessN_step x.a ol m hmo
              have HST := Aside0.mk hst
              obtain ⟨u, hu⟩ : ∃ u, ol[m] = u := ⟨_, rfl⟩
              rw [hu] at y0 y1 y2 y3 y4 HST
              clear hu hst hcm hmo HKm y0 y1 y2 y4
              cases hb : Op.bytesLess u.f3.toList x.a.toList
              · have HQ := Aside0.mk (show lessN x.a (ol.drop m) = 0 by rw [HST.out, hb]; rfl)
                go_wp2
                go_meet
                case rel => exact ⟨m, rfl, hm, ⟨by rw [HLm.out, HQ.out]; rfl⟩, HBm⟩
              · have HQ := Aside0.mk (show lessN x.a (ol.drop m) = 1 + lessN x.a (ol.drop (m + 1)) by rw [HST.out, hb]; rfl)
                go_wp2
                go_roundg k1
                case measure => omega
                case rel => exact ⟨m + 1, by first | rfl | (congr 1; omega) | (simp; done), hml, HK1, ⟨by rw [HLm.out, HQ.out]; omega⟩, HBm⟩
            · obtain rfl : m = ll := by omega
              have HQ := Aside0.mk (show lessN x.a (ol.drop m) = 0 by rw [List.drop_eq_nil_of_le (by rw [HOL.out.2]; exact Nat.le_refl _)]; rfl)
              go_wp2
              go_meet
              case rel => exact ⟨m, rfl, hm, ⟨by rw [HLm.out, HQ.out]; rfl⟩, HBm⟩
        case rest =>
          obtain ⟨m, rfl, hm, HM, HBm⟩ := hcut
          refine ‹∀ (a : Act) (w : World), Code.wp Try.prog _ _ a w → _› _ _ ?_
          have hE : resV (lastV (outA ls ins ls.length 0) (n + 1) m ⟨number, s1, cc, x.a, x.b⟩) = nextV ls ins n number fewer := by
            unfold nextV tabF
            rw [HM.out, ← HOL.out.1, HS1.out, HC2.out, HC1.out, HX.out]
          refine behind_tail _ rfl _ w W2 wc p5 p8 R q T n m #[.slice A ls.length c] J (outA ls ins ls.length 0) vs f Ak ll ck ⟨number, s1, cc, x.a, x.b⟩ _ _ _ _ _ _ _ _ _ _ _ _ _ _ _ _ _ _ _ _ _ _ _ _ _ _ _ _ _ _ _ _ _ _ _ _ _ _ _ _ _ _ _ _ _ _ _ _ _ _ _ _ _ _ _ _ _ _ _ _ _ _ _ _ _ _ _ _ _ _ _ _ _ _ _ _ _ _ _ _ _ _ _ _ _ _ _ _ _ _ _ _ _ _ _ _ _ _ _ _ _ _ _ _ _ _ _ _ _ _ _ _ _ _ _ _ _ _ _ _ _ _ _ _ _ _ _ _ _ _ _ _ _ _ _ _ _ _ _ _ _ _ _ _ _ _ _ _ _ _ _ _ _ _ _ _ _ _ _ _ _ _ _ _ _ _ _ _ _ _ _ _ _ _ _ _ _ _ _ _ _ _ _ _ _ _ _ _ _ _ _ _ _ _ _ _ _ _ _ _ _ _ _ _ _ _ _  HB2 HO2 HEV ⟨by rw [HOL.out.1]; exact HOL.out.2⟩ hck hll1 ⟨by rw [HOL.out.1]; exact HCK.out⟩ HT2 hn5 hm HBm H8 ⟨?_⟩
          rw [hE]
          intro A' c' W h1 h2 h3
          exact ⟨A', c', rfl, h2, h3, h1⟩
end Go.Proofs.Ytdibolblgchpdaa.P
