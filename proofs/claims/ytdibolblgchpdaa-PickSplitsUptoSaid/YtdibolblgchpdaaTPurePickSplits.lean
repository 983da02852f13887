/- The law PickSplits in plain mathematics. -/
import Derived.Test.YtdibolblgchpdaaTQ3
import Derived.Test.YtdibolblgchpdaaTQ7
set_option linter.unusedVariables false
set_option linter.unusedSimpArgs false
namespace Go.Proofs.Ytdibolblgchpdaa.Pure
open Go.RowKit Go.Proofs.Ytdibolblgchpdaa.P Go.Proofs.YtdibolblgchpdaaW.PrintWords Go.Proofs.YtdibolblgchpdaaW.PrintLast Go.Proofs.YtdibolblgchpdaaW.PrintMore
theorem rd15_get (L : List (List S59)) (i : Nat) (h : i < L.length) : rd_L15 L (i : Int) = L[i] := by
  unfold rd_L15
  rw [Int.toNat_natCast, List.getD_eq_getElem?_getD, List.getElem?_eq_getElem h]
  rfl
theorem cell_same (x : S59) : ((!((x.f0.toList) == (x.f0.toList))) || (!((x.f1) == (x.f1)) || (!((x.f2.toList) == (x.f2.toList)) || (!((x.f3) == (x.f3)))))) = false := by simp
theorem wrapS (n : Nat) (h : n ≤ 4611686018427387904) : wrap64 ((n : Int) + 1) = ((n + 1 : Nat) : Int) := by unfold wrap64; omega
theorem split_l1 (L : List (List S59)) (i : Nat) (hi : i < L.length) (hib : i ≤ 4611686018427387904) (p : List S59) (hp : rd_L15 L (i : Int) = p) (hm : p.length ≤ 4611686018427387904)
    (ih : Ev (fun k => atriumlaw12_PickSplits.l0 k L L (L.length : Int) ((i + 1 : Nat) : Int)) true) (d : Nat) : ∀ j : Nat, j ≤ p.length → p.length - j = d →
    Ev (fun k => atriumlaw12_PickSplits.l1 k L L (i : Int) (L.length : Int) (i : Int) (p.length : Int) (j : Int)) true := by
  induction d with
  | zero =>
    intro j hj hd
    refine Ev.step (fun k => ?_) ih
    simp only [atriumlaw12_PickSplits.l1]
    rw [if_neg (by omega), wrapS i hib]
  | succ d ihd =>
    intro j hj hd
    refine Ev.step (fun k => ?_) (ihd (j + 1) (by omega) (by omega))
    simp only [atriumlaw12_PickSplits.l1]
    rw [hp, cell_same, if_pos (by omega), if_pos (by omega), if_pos (by omega), if_pos (by omega), if_pos (by omega), if_pos (by omega), if_pos (by omega), if_neg (by simp), wrapS j (by omega)]
theorem split_l0 (L : List (List S59)) (hL : L.length ≤ 4611686018427387904) (hp : ∀ p ∈ L, p.length ≤ 4611686018427387904) (d : Nat) : ∀ i : Nat, i ≤ L.length → L.length - i = d →
    Ev (fun k => atriumlaw12_PickSplits.l0 k L L (L.length : Int) (i : Int)) true := by
  induction d with
  | zero =>
    intro i hi hd
    refine Ev.step (f := fun _ => some true) (fun k => ?_) (Ev.now true)
    simp only [atriumlaw12_PickSplits.l0]
    rw [if_neg (by omega)]
  | succ d ih =>
    intro i hi hd
    have hlt : i < L.length := by omega
    have hg := rd15_get L i hlt
    refine Ev.step (fun k => ?_) (split_l1 L i hlt (by omega) (rd_L15 L (i : Int)) rfl (by rw [hg]; exact hp _ (List.getElem_mem hlt)) (ih (i + 1) (by omega) (by omega)) _ 0 (Nat.zero_le _) rfl)
    simp only [atriumlaw12_PickSplits.l0]
    rw [if_pos (by omega), if_pos (by omega), if_pos (by omega), if_pos (by omega), if_pos trivial]
    rfl
theorem mem_len {α : Type} : ∀ (L : List (List α)) (p : List α), p ∈ L → p.length ≤ L.flatten.length
  | [], p, h => by cases h
  | a :: L, p, h => by
    rw [List.flatten_cons, List.length_append]
    rcases List.mem_cons.1 h with rfl | h
    · omega
    · have := mem_len L p h; omega
theorem PickSplits (l : List S59) (o0 o1 o2 o3 o4 o5 o6 : Int) (hl : l.length ≤ 2932031007317) (hg : gsize l ≤ 1152921504606846976) :
    ∃ k, atriumlaw12_PickSplits.f k l o0 o1 o2 o3 o4 o5 o6 = some true := by
  apply Ev.rounds
  unfold atriumlaw12_PickSplits.f
  refine Ev.bind (g := fun _ => atriumlaw12_awake.f) (Ev.now true) ?_
  simp only [if_true]
  have hc : merge_Cut.f l 262144 = some (if sortedF l = true ∧ (1 : Int) ≤ 262144 then cutF 262144 l else []) := by
    unfold merge_Cut.f
    rw [if_pos ⟨by omega, hg, by omega⟩]
    split <;> rfl
  have key : ∀ (L : List (List S59)), L.length ≤ 4611686018427387904 → (∀ p ∈ L, p.length ≤ 4611686018427387904) → Ev (fun k => if (L.length : Int) = (L.length : Int) then atriumlaw12_PickSplits.l0 k L L (L.length : Int) 0 else some false) true := by
    intro L h1 h2
    simp only [if_true]
    exact split_l0 L h1 h2 _ 0 (Nat.zero_le _) rfl
  by_cases hm : mayB o0 o1 o2 o3 o4 o5 o6 = true
  · have hL : ∃ L : List (List S59), L = (if sortedF l = true ∧ (1 : Int) ≤ 262144 then cutF 262144 l else []) ∧ L.length ≤ 4611686018427387904 ∧ (∀ p ∈ L, p.length ≤ 4611686018427387904) := by
      refine ⟨_, rfl, ?_, ?_⟩
      · split
        · obtain ⟨h1, h2, h3⟩ := cutF_all 262144 l
          have := flat_len (cutF 262144 l) h2
          rw [h1] at this
          omega
        · simp
      · split
        · obtain ⟨h1, h2, h3⟩ := cutF_all 262144 l
          intro p hp
          have := mem_len _ p hp
          rw [h1] at this
          omega
        · intro p hp; cases hp
    obtain ⟨L, hLe, h1, h2⟩ := hL
    rw [← hLe] at hc
    have e1 : pick_Split.f l o0 o1 o2 o3 o4 o5 o6 = some L := by
      unfold pick_Split.f
      rw [may_val, hm]
      simp only [Option.bind_some, if_true, hc]
    refine Ev.bind (g := fun _ => pick_Split.f l o0 o1 o2 o3 o4 o5 o6) (Ev.congr (fun _ => e1) (Ev.now _)) (Ev.bind (g := fun k => atriumref12_Split.f k l o0 o1 o2 o3 o4 o5 o6) (a := L) ?_ (key L h1 h2))
    unfold atriumref12_Split.f
    rw [opt_val, hm]
    simp only [Option.bind_some, if_true]
    have hcr := cut_ref l 262144 hl hg
    rw [← hLe] at hcr
    exact Ev.bind hcr (Ev.now _)
  · have hm : mayB o0 o1 o2 o3 o4 o5 o6 = false := Bool.eq_false_iff.mpr hm
    have e1 : pick_Split.f l o0 o1 o2 o3 o4 o5 o6 = some [] := by
      unfold pick_Split.f
      rw [may_val, hm]
      rfl
    refine Ev.bind (g := fun _ => pick_Split.f l o0 o1 o2 o3 o4 o5 o6) (Ev.congr (fun _ => e1) (Ev.now _)) (Ev.bind (g := fun k => atriumref12_Split.f k l o0 o1 o2 o3 o4 o5 o6) (a := []) ?_ (key [] (by simp) (fun p hp => by cases hp)))
    unfold atriumref12_Split.f
    rw [opt_val, hm]
    exact Ev.now _
end Go.Proofs.Ytdibolblgchpdaa.Pure
