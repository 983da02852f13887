/- The law FilterBuilds in plain mathematics. -/
import Derived.Test.YtifoofgdfaaaoaaQ
set_option linter.unusedVariables false
namespace Go.Proofs.Ytifoofgdfaaaoaa.Pure
open Go.RowKit Go.Proofs.Ytifoofgdfaaaoaa.P Go.Proofs.YtifoofgdfaaaoaaW.PrintWords Go.Proofs.YtifoofgdfaaaoaaW.PrintLast Go.Proofs.YtifoofgdfaaaoaaW.PrintMore

theorem builds_end (keys : List ByteArray) (b : Int) (key : ByteArray) (hkey : key.size ≤ 140737488351232) (B : List Int) (hB : isBytes B = true) (hl : B.length ≤ 300000) (hk : keys.length ≤ 140737488355328) (d : Nat) : ∀ i : Nat, i ≤ keys.length → keys.length - i = d →
    EvS (fun k => atriumlaw07_FilterBuilds.l0 k keys key keys B B (i : Int)) true := by
  obtain ⟨r, hr⟩ := may_some B key (by omega) hkey
  have hr2 : atriumref07_May.f B key = some r := hr
  obtain ⟨n, hn, hn2⟩ := ones_eq B hB (by omega)
  obtain ⟨t, ht, _⟩ := check_some B (by omega)
  have ht2 : atriumref07_Check.f B = some t := ht
  induction d with
  | zero =>
    intro i hi hd
    refine EvS.step (h := fun k => (atriumref07_Ones.f k B).bind fun t147 => if n = t147 then some true else some false) (fun k => ?_) (EvS.bind hn2 (EvS.const (by rw [if_pos rfl])))
    simp only [atriumlaw07_FilterBuilds.l0]
    rw [if_neg (by omega), hr, hr2]
    simp only [Option.bind_some, beq_self_eq_true, if_true]
    rw [hn, ht, ht2]
    simp
  | succ d ih =>
    intro i hi hd
    refine EvS.step (h := fun k => atriumlaw07_FilterBuilds.l0 k keys key keys B B ((i + 1 : Nat) : Int)) (fun k => ?_) (ih (i + 1) (by omega) (by omega))
    simp only [atriumlaw07_FilterBuilds.l0]
    have hw := rr_n i (by omega)
    have c1 : (i : Int) < (keys.length : Int) := by omega
    have c2 : (0 : Int) ≤ (i : Int) := by omega
    simp only [c1, c2, if_true, hw]
theorem FilterBuilds (l0 : List ByteArray) (a1 : Int) (a2 : ByteArray) (ok0 : (∀ x ∈ l0, x.size ≤ 140737488351232) ∧ l0.length * 16 ≤ 140737488351232) (w1 : (Lit.int .i64 a1).wf = true) (w2 : a2.size ≤ 140737488351232) :
    ∃ k, atriumlaw07_FilterBuilds.f k l0 a1 a2 = some true := by
  have hall : l0.all (fun s => decide (s.size ≤ 140737488351232)) = true := by
    rw [List.all_eq_true]
    exact fun s hs => decide_eq_true (ok0.1 s hs)
  have hbld : filter_Build.f l0 a1 = some (buildOf l0 a1) := by unfold filter_Build.f; rw [if_pos hall]
  have hbld2 : atriumref07_Build.f l0 a1 = some (buildOf l0 a1) := hbld
  have hbb : isBytes (buildOf l0 a1).1 = true ∧ (buildOf l0 a1).1.length ≤ 300000 := by
    unfold buildOf
    split
    · exact ⟨rfl, by simp⟩
    · split
      · exact ⟨rfl, by simp⟩
      · rename_i h1 h2
        refine ⟨isBytes_build _ _ (by omega) (by omega), ?_⟩
        have := bytesFor_bd l0.length a1 (by omega) (by omega) (by omega)
        rw [build_length]
        omega
  apply EvS.ex
  have hlen : ([] : List ByteArray).length + l0.length < 8796093022208 := by simp; omega
  refine EvS.congr (h := fun k => (atriumlaw07_sameBytes.f k (buildOf l0 a1).1 (buildOf l0 a1).1).bind fun t141 => if t141 = true then atriumlaw07_FilterBuilds.j0 k l0 a2 l0 (buildOf l0 a1).1 (buildOf l0 a1).1 false else atriumlaw07_FilterBuilds.j0 k l0 a2 l0 (buildOf l0 a1).1 (buildOf l0 a1).1 true) (fun k => ?_) ?_
  · unfold atriumlaw07_FilterBuilds.f
    rw [lives_true, Option.bind_some, if_pos rfl, Option.bind_some, if_pos hlen, Option.bind_some, List.nil_append, hbld, Option.bind_some, hbld2, Option.bind_some]
    simp only [bne_self_eq_false]
  · refine EvS.bind (same_refl _ (by omega)) ?_
    simp only [if_true]
    refine EvS.step (h := fun k => atriumlaw07_FilterBuilds.l0 k l0 a2 l0 (buildOf l0 a1).1 (buildOf l0 a1).1 0) (fun k => ?_) (builds_end l0 a1 a2 w2 _ hbb.1 hbb.2 (by omega) l0.length 0 (by omega) (by omega))
    simp only [atriumlaw07_FilterBuilds.j0]
    rw [if_neg (by decide)]
end Go.Proofs.Ytifoofgdfaaaoaa.Pure
