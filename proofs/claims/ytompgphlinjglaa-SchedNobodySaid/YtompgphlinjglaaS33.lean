/- SchedNobody. -/
import Derived.Test.YtompgphlinjglaaS32
namespace Go.Proofs.Ytompgphlinjglaa.P
open Go.RowKit Go.Proofs.YtompgphlinjglaaW.PrintWords Go.Proofs.YtompgphlinjglaaW.PrintLast Go.Proofs.YtompgphlinjglaaW.PrintMore
attribute [local go_sem] Oper.semAt_some
set_option linter.unusedVariables false
set_option linter.unusedSimpArgs false

set_option maxHeartbeats 8000000 in
set_option maxRecDepth 100000 in
theorem schedNobody_calls (n x : Int) (w : World) : Calls Try.prog 8 #[.int .i64 n, .int .u64 x] w fun e w' => e = .returned (.bool true) ∧ Below w.heap.size w w' := by
  go_enter Try.func8, Try.ntmps8
  go_upto_region 6 with (go_at_call 23; refine (lives_calls _).mono ?_; rintro e w1 ⟨rfl, hb⟩; have HB1 := Aside0.mk hb; clear hb)
  go_upto_region 7 with (first
    | (go_at_call 24; refine (addNil_calls _ _).mono ?_; rintro e w3 ⟨rfl, hb⟩; have HB3 := Aside0.mk (below_step HB2.out hb); clear hb)
    | (go_at_call 25; refine (newActs_calls none 0 [] _ (Kd.C_nil _ _) (Nat.le_refl _) (Nat.zero_le _)).mono ?_; rintro e w2 ⟨b, rfl, hb, _, _⟩; have HB2 := Aside0.mk (below_step HB1.out hb); clear hb))
  clear HB1 HB2
  go_upto_region 8 with (go_at_call 11; refine (stepNil_calls _ _).mono ?_; rintro e w4 ⟨rfl, hb⟩; have HB4 := Aside0.mk (below_step HB3.out hb); clear hb)
  clear HB3
  go_upto_region 9 with (go_at_call 22; refine (nextNil_calls _).mono ?_; rintro e w5 ⟨rfl, hb⟩; have HB5 := Aside0.mk (below_step HB4.out hb); clear hb)
  clear HB4
  go_upto_region 10 with (go_at_call 26; refine (actNil_calls _).mono ?_; rintro e w6 ⟨rfl, hb⟩; have HB6 := Aside0.mk (below_step HB5.out hb); clear hb)
  clear HB5
  have BX := Aside0.mk (blk_new w6 (.cells #[.bool true, .int .i64 0, .slice none 0 0] 65))
  have HB7 := Aside0.mk (below_alloc HB6.out (.cells #[.bool true, .int .i64 0, .slice none 0 0] 65))
  have HN := Aside0.mk (new_calls none 0 [] none 0 [] none 0 [] (w6.alloc (.cells #[.bool true, .int .i64 0, .slice none 0 0] 65)) (Kd.C_nil _ _) (Nat.le_refl _) (Kd.C_nil _ _) (Nat.le_refl _) (Kd.C_nil _ _) (Nat.le_refl _) (by decide) (by decide))
  go_upto_region 11 with (go_at_call 27; refine HN.out.mono ?_; rintro e w8 ⟨p, rfl, hb, _, hl⟩; have HB8 := Aside0.mk (below_step HB7.out hb); have BX8 := Aside0.mk (blk_below BX.out hb); have HL8 := Aside0.mk (hl gData 0); clear hb hl)
  obtain ⟨g8, _, hl8⟩ := HL8.out
  have HAN := Aside0.mk (addNone_calls hl8)
  clear HN HB7 HL8 hl8 BX HB6
  go_upto_region 14 with (go_at_call 24; refine HAN.out.mono ?_; rintro e w9 ⟨rfl, hb⟩; have HB9 := Aside0.mk (below_step HB8.out hb); have BX9 := Aside0.mk (blk_below BX8.out hb); clear hb)
  clear HAN HB8 BX8
  have z0 := (blkc BX9.out 0 rfl).1
  have HMX := Aside0.mk (fun (W : World) => mix_calls x W)
  have HMR := Aside0.mk (fun (W : World) => rmix_calls x W)
  generalize mixF x = mx at HMX HMR
  go_wp2_with (first
    | (go_at_call 16; refine (runNil_calls _).mono ?_; rintro e w10 ⟨rfl, hb⟩; have HB10 := Aside0.mk (below_step HB9.out hb); have BX10 := Aside0.mk (blk_below BX9.out hb); clear hb)
    | (go_at_call 14; refine (wakeNil_calls _ _).mono ?_; rintro e w11 ⟨rfl, hb⟩; have HB11 := Aside0.mk (below_step HB10.out hb); have BX11 := Aside0.mk (blk_below BX10.out hb); clear hb)
    | (go_at_call 19; refine (nowNil_calls _).mono ?_; rintro e w12 ⟨rfl, hb⟩; have HB12 := Aside0.mk (below_step HB11.out hb); have BX12 := Aside0.mk (blk_below BX11.out hb); clear hb)
    | (go_at_call 18; refine (stepsNil_calls _).mono ?_; rintro e w13 ⟨rfl, hb⟩; have HB13 := Aside0.mk (below_step HB12.out hb); have BX13 := Aside0.mk (blk_below BX12.out hb); clear hb)
    | (go_at_call 13; refine (waitsNil_calls _).mono ?_; rintro e w14 ⟨rfl, hb⟩; have HB14 := Aside0.mk (below_step HB13.out hb); have BX14 := Aside0.mk (blk_below BX13.out hb); clear hb)
    | (go_at_call 15; refine (readyNil_calls _).mono ?_; rintro e w15 ⟨rfl, hb⟩; have HB15 := Aside0.mk (below_step HB14.out hb); have BX15 := Aside0.mk (blk_below BX14.out hb); clear hb)
    | (go_at_call 17; refine (doneNil_calls _).mono ?_; rintro e w16 ⟨rfl, hb⟩; have HB16 := Aside0.mk (below_step HB15.out hb); have z16 := (blkc (blk_below BX15.out hb) 0 rfl).1; clear hb)
    | (go_at_call 28; refine (envNowNil_calls _).mono ?_; rintro e w17 ⟨rfl, rfl⟩)
    | (go_at_call 29; refine (drawNil_calls _).mono ?_; rintro e w18 ⟨rfl, rfl⟩)
    | (go_at_call 30; refine (toldNil_calls _).mono ?_; rintro e w19 ⟨rfl, rfl⟩)
    | (go_at_call 31; refine (HMX.out _).mono ?_; rintro e w20 ⟨rfl, hd⟩; obtain ⟨m1, rfl⟩ := hd.out; clear hd)
    | (go_at_call 32; refine (HMR.out _).mono ?_; rintro e w21 ⟨rfl, hd⟩; obtain ⟨m2, rfl⟩ := hd.out; clear hd))
  go_ret
  exact ⟨rfl, by first | exact pw_below_drewN (pw_below_drewN HB16.out _) _ | exact pw_below_drewN HB16.out _ | exact HB16.out⟩
end Go.Proofs.Ytompgphlinjglaa.P
