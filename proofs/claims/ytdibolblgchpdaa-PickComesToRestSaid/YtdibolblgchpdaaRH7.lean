/- Contracts proved by hand: pick.chosen. -/
import Derived.Test.YtdibolblgchpdaaRH5
import Derived.Test.YtdibolblgchpdaaRH6
namespace Go.Proofs.Ytdibolblgchpdaa.P
open Go.RowKit Go.Proofs.YtdibolblgchpdaaW.PrintWords Go.Proofs.YtdibolblgchpdaaW.PrintLast Go.Proofs.YtdibolblgchpdaaW.PrintMore
attribute [local go_sem] Oper.semAt_some
set_option linter.unusedVariables false
set_option linter.unusedSimpArgs false
def chosenF (ls : List (List S44)) (n : Nat) : List S44 := if n = 0 then lvl ls 0 else [minN lt0 byNum (lvl ls n) (lvl ls n).length]
set_option maxHeartbeats 4000000 in
set_option maxRecDepth 100000 in
theorem chosen_calls (A : Option Addr) (c : Nat) (ls : List (List S44)) (n : Nat) (w : World) (hC : Kd.C (Kd.slice 44 k44) w A ls.length ls) (hc : ls.length ≤ c) (hn : 0 < n → 0 < (lvl ls n).length) (hcap : (lvl ls n).length ≤ 1152921504606846976) :
    Calls Try.prog 33 #[.agg #[.slice A ls.length c], .int .i64 n] w fun e w' => ∃ A' c', e = .returned (.slice A' (chosenF ls n).length c') ∧ (chosenF ls n).length ≤ c' ∧ Kd.C k44 w' A' (chosenF ls n).length (chosenF ls n) ∧ Below w.heap.size w w' := by
  have hb := below_alloc (Below.refl w.heap.size w) (.cells #[.slice A ls.length c] 24)
  have HC := Aside0.mk (Kd.C_below hC hb)
  have HB := Aside0.mk hb
  clear hC hb
  by_cases h0 : n = 0
  · subst h0
    have e : chosenF ls 0 = lvl ls 0 := rfl
    rw [e]
    clear e hn hcap
    go_enter Try.func33, Try.ntmps33
    go_wp2_with (go_at_call 35; refine (level_calls A c ls 0 _ HC.out hc).mono ?_; rintro e w1 ⟨A1, c1, rfl, hl, hC1, hb⟩; have HL := Aside0.mk hl; have HC1 := Aside0.mk hC1; have HB1 := Aside0.mk (HB.out.trans (hb.mono HB.out.size)); clear hl hC1 hb)
    go_ret
    exact ⟨A1, c1, rfl, HL.out, HC1.out, HB1.out⟩
  · have e : chosenF ls n = [minN lt0 byNum (lvl ls n) (lvl ls n).length] := by unfold chosenF; rw [if_neg h0]
    rw [e]
    clear e
    have hp := hn (by omega)
    have hz : ((n : Int) == 0) = false := beq_eq_false_iff_ne.mpr (by omega)
    clear hn
    obtain ⟨l, hl⟩ : ∃ l, lvl ls n = l := ⟨_, rfl⟩
    have hlv := level_calls A c ls n (w.alloc (.cells #[.slice A ls.length c] 24)) HC.out hc
    rw [hl] at hp hcap hlv ⊢
    have HLV := Aside0.mk hlv
    clear hl hlv
    go_enter Try.func33, Try.ntmps33
    go_wp2_with (first
      | (go_at_call 35; refine (HLV.out).mono ?_; rintro e w1 ⟨A1, c1, rfl, hl, hC1, hb⟩; have HL := Aside0.mk hl; have HC1 := Aside0.mk hC1; have HB1 := Aside0.mk (HB.out.trans (hb.mono HB.out.size)); clear hl hC1 hb)
      | (go_at_call 49; refine (minNum_calls A1 c1 l _ HC1.out hp hcap).mono ?_; rintro e w2 ⟨rfl, hb⟩; dsimp only [cell44]; have HB2 := Aside0.mk (HB1.out.trans (hb.mono HB1.out.size)); clear hb))
    go_ret
    exact ⟨_, 1, rfl, Nat.le_refl _, Row44.C (cs := #[_, _, _, _, _]) (fun j p hj i u hu => by
      match j, hj with
      | 0, hj => obtain rfl := Option.some.inj hj; simpa [c5] using hu) (World.alloc_heap_new w2 _) (by simp), below_alloc HB2.out _⟩
end Go.Proofs.Ytdibolblgchpdaa.P
