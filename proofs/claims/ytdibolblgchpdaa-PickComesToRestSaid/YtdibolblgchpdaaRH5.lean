/- Contracts proved by hand: pick.span, pick.level as it reads, pick.chosen. -/
import Derived.Test.YtdibolblgchpdaaRH4
import Derived.Test.YtdibolblgchpdaaRPL0a
namespace Go.Proofs.Ytdibolblgchpdaa.P
open Go.RowKit Go.Proofs.YtdibolblgchpdaaW.PrintWords Go.Proofs.YtdibolblgchpdaaW.PrintLast Go.Proofs.YtdibolblgchpdaaW.PrintMore
attribute [local go_sem] Oper.semAt_some
set_option linter.unusedVariables false
set_option linter.unusedSimpArgs false
theorem C_none {W : World} : Kd.C k44 W none 0 [] := ⟨rfl, by decide, fun h => absurd h (by decide)⟩
theorem field3 (a0 a1 a2 : Int) (a3 a4 : ByteArray) (w : World) : (Instr.field 44 (.agg #[.int .i64 a0, .int .i64 a1, .int .i64 a2, .string a3, .string a4]) 3).run Try.prog w = .ok (.string a3) w := by kernel_rfl
theorem field4 (a0 a1 a2 : Int) (a3 a4 : ByteArray) (w : World) : (Instr.field 44 (.agg #[.int .i64 a0, .int .i64 a1, .int .i64 a2, .string a3, .string a4]) 4).run Try.prog w = .ok (.string a4) w := by kernel_rfl
def spanA (l : List S44) : ByteArray := (minN lt0 byFirst l l.length).f3
def spanB (l : List S44) : ByteArray := (minN gt0 byLast l l.length).f4
set_option maxHeartbeats 2000000 in
set_option maxRecDepth 100000 in
theorem span_calls (A : Option Addr) (c : Nat) (l : List S44) (w : World) (hC : Kd.C k44 w A l.length l) (hl : 0 < l.length) (hcap : l.length ≤ 1152921504606846976) :
    Calls Try.prog 34 #[.slice A l.length c] w fun e w' => e = .returned (.tuple #[.string (spanA l), .string (spanB l)]) ∧ Below w.heap.size w w' := by
  have HC := Aside0.mk hC
  clear hC
  have h3 := field3
  have h4 := field4
  go_enter Try.func34, Try.ntmps34
  go_wp2_with (first
    | (go_at_call 49; refine (minFirst_calls A c l _ HC.out hl hcap).mono ?_; rintro e w1 ⟨rfl, hb⟩; dsimp only [cell44]; have HB1 := Aside0.mk hb; clear hb)
    | (go_at_call 54; refine (maxLast_calls A c l _ (Kd.C_below HC.out HB1.out) hl hcap).mono ?_; rintro e w2 ⟨rfl, hb⟩; dsimp only [cell44]; have HB2 := Aside0.mk (HB1.out.trans (hb.mono HB1.out.size)); clear hb))
  go_ret2
  exact ⟨rfl, HB2.out⟩
def lvl (ls : List (List S44)) (n : Int) : List S44 := if n < 0 then [] else ls.getD n.toNat []
set_option maxHeartbeats 2000000 in
set_option maxRecDepth 100000 in
theorem level_calls (A : Option Addr) (c : Nat) (ls : List (List S44)) (n : Int) (w : World) (hC : Kd.C (Kd.slice 44 k44) w A ls.length ls) (hc : ls.length ≤ c) :
    Calls Try.prog 35 #[.agg #[.slice A ls.length c], .int .i64 n] w fun e w' => ∃ A' c', e = .returned (.slice A' (lvl ls n).length c') ∧ (lvl ls n).length ≤ c' ∧ Kd.C k44 w' A' (lvl ls n).length (lvl ls n) ∧ Below w.heap.size w w' := by
  have HC := Aside0.mk hC
  clear hC
  by_cases h0 : n < 0
  · have e : lvl ls n = [] := by unfold lvl; rw [if_pos h0]
    rw [e]
    clear e
    have h1 : decide (n < 0) = true := decide_eq_true h0
    go_enter Try.func35, Try.ntmps35
    go_wp2
    go_ret
    exact ⟨none, 0, rfl, Nat.le_refl _, C_none, below_alloc (Below.refl _ _) _⟩
  · have h1 : decide (n < 0) = false := decide_eq_false h0
    by_cases h2 : (ls.length : Int) ≤ n
    · have e : lvl ls n = [] := by
        unfold lvl; rw [if_neg h0, List.getD_eq_getElem?_getD, List.getElem?_eq_none (by omega)]; rfl
      rw [e]
      clear e
      have h3 : decide ((ls.length : Int) ≤ n) = true := decide_eq_true h2
      go_enter Try.func35, Try.ntmps35
      go_wp2
      go_ret
      first | exact ⟨none, 0, rfl, Nat.le_refl _, C_none, below_alloc (Below.refl _ _) _⟩ | exact ⟨none, ⟨0, rfl⟩, C_none, below_alloc (Below.refl _ _) _⟩
    · have h3 : decide ((ls.length : Int) ≤ n) = false := decide_eq_false h2
      have e : lvl ls n = rd_L3 ls n := by unfold lvl rd_L3; rw [if_neg h0]
      obtain ⟨ad, A', c', ea, x0, hl, hK⟩ := at_L3 (Kd.C_alloc HC.out (.cells #[.slice A ls.length c] 24)) n (by omega) (by omega)
      rw [e]
      have HK := Aside0.mk hK
      have HL := Aside0.mk hl
      subst ea
      clear e hK hl
      go_enter Try.func35, Try.ntmps35
      go_wp2
      go_ret
      exact ⟨A', c', rfl, HL.out, HK.out, below_alloc (Below.refl _ _) _⟩
end Go.Proofs.Ytdibolblgchpdaa.P
