/- merge.keys: the iterator over the cells of each key. -/
import Derived.Test.YtdpnhnfhobmopaaR1
import Derived.Sort.LoopGhostIn
import Derived.Sort.QuietIn
namespace Go.Proofs.Ytdpnhnfhobmopaa.P
open Go.RowKit Go.Shelf Go.Proofs.YtdpnhnfhobmopaaW.PrintWords Go.Proofs.YtdpnhnfhobmopaaW.PrintLast Go.Proofs.YtdpnhnfhobmopaaW.PrintMore
attribute [local go_sem] Oper.semAt_some
set_option linter.unusedVariables false
set_option linter.unusedSimpArgs false

/-- How many cells of the first key there are. -/
def runLen : List S24 → Nat
  | [] => 0
  | a :: l => 1 + (l.takeWhile fun x => decide (x.f0.toList = a.f0.toList)).length
theorem runLen_le : ∀ l : List S24, runLen l ≤ l.length
  | [] => Nat.le_refl _
  | a :: l => by
    unfold runLen
    have := (List.takeWhile_sublist (fun x : S24 => decide (x.f0.toList = a.f0.toList)) (l := l)).length_le
    simp only [List.length_cons]
    omega
theorem tw_spec (p : S24 → Bool) : ∀ (l : List S24) (m : Nat), m ≤ (l.takeWhile p).length → (h : m < l.length) → (p l[m] = true ↔ m < (l.takeWhile p).length)
  | [], m, _, h => absurd h (Nat.not_lt_zero _)
  | a :: l, m, hm, h => by
    by_cases ha : p a = true
    · rw [List.takeWhile_cons_of_pos ha] at hm ⊢
      cases m with
      | zero => simp [ha]
      | succ m =>
        have := tw_spec p l m (by simpa using hm) (by simpa using h)
        simpa using this
    · rw [List.takeWhile_cons_of_neg ha] at hm ⊢
      have hm0 : m = 0 := by simpa using hm
      subst hm0
      simp [ha]
/-- One cell more of the first key. -/
theorem run_spec (x : S24) (l : List S24) (m : Nat) (hm : m + 1 ≤ runLen (x :: l)) (h : m < l.length) : (rd_T24 (x :: l) ((m + 1 : Nat) : Int)).f0.toList = x.f0.toList ↔ m + 1 < runLen (x :: l) := by
  have e : rd_T24 (x :: l) ((m + 1 : Nat) : Int) = l[m] := by rw [rd24_getElem (x :: l) (m + 1) (by simpa using h)]; rfl
  have hr : runLen (x :: l) = 1 + (l.takeWhile fun y => decide (y.f0.toList = x.f0.toList)).length := rfl
  have this := tw_spec (fun y => decide (y.f0.toList = x.f0.toList)) l m
  rw [hr] at hm ⊢
  rw [e]
  generalize (l.takeWhile fun y => decide (y.f0.toList = x.f0.toList)).length = T at this hm ⊢
  have t2 := this (by omega) h
  rw [decide_eq_true_iff] at t2
  rw [t2]
  omega
theorem runLen_pos (x : S24) (l : List S24) : 0 + 1 ≤ runLen (x :: l) := by
  have hr : runLen (x :: l) = 1 + (l.takeWhile fun y => decide (y.f0.toList = x.f0.toList)).length := rfl
  rw [hr]
  omega
structure Raw where
  A : Option Addr
  c : Nat
  l : List S24
def Raw.next (r : Raw) : Raw := ⟨if r.c = runLen r.l then r.A else r.A.map (·.add (runLen r.l * 4)), r.c - runLen r.l, r.l.drop (runLen r.l)⟩
def Raw.at (r : Raw) : Nat → Raw
  | 0 => r
  | t + 1 => (r.at t).next
def Raw.val (r : Raw) : Value := .slice r.A r.l.length r.c
def HoldK (B : Nat) (r : Raw) (t : Nat) (W : World) : Prop :=
  W.cell? ⟨B, 0, none⟩ = some (r.at t).val ∧ W.frozen? ⟨B, 0, none⟩ = false ∧ Kd.C k24 W (r.at t).A (r.at t).l.length (r.at t).l ∧ (r.at t).l.length ≤ (r.at t).c
def ClK (B : Nat) (r : Raw) (t : Nat) (A W : World) : Prop := ∃ m, W = (A.drewN m).setCell ⟨B, 0, none⟩ (r.at (t + 1)).val
set_option maxRecDepth 100000 in
set_option maxHeartbeats 4000000 in
theorem keys_in (n : Nat) (hn : 1 ≤ n) (B : Nat) (r : Raw) (N : Nat) (hend : (r.at N).l = []) (hgo : ∀ t, t < N → (r.at t).l ≠ []) :
    Asks Fence.wide n Try.prog 44 #[.pointer (some ⟨B, 0, none⟩)] (fun t => #[.slice (r.at t).A (runLen (r.at t).l) (runLen (r.at t).l)]) N (HoldK B r) (ClK B r) := by
  intro l J J' W hJ hJ' hcl hd hY h0
  refine callsIn_of_wp Try.func44 rfl trivial ?_ rfl
  simp only [Try.ntmps44, List.size_toArray, List.length_cons, List.length_nil, Nat.reduceAdd, Nat.reduceSub, Array.replicate_succ, Array.replicate_zero, List.push_toArray, List.append_toArray, List.nil_append, List.cons_append]
  gi_wp2
  have HJ0 := Aside0.mk h0
  clear h0
  gi_loopg [3] N (fun kq v3 w' => ∃ t : Nat, t ≤ N ∧ Aside0 (kq = N - t) ∧ Aside0 (J t w'))
  case atStart => exact ⟨0, Nat.zero_le _, ⟨rfl⟩, HJ0⟩
  case round =>
    obtain ⟨t, ht, HK, HJ⟩ := hrel
    obtain ⟨hc, hf, hC, hcap⟩ := hJ t _ HJ.out
    obtain ⟨rt, hrt⟩ : ∃ rt, r.at t = rt := ⟨_, rfl⟩
    rw [hrt] at hc hC hcap
    have HRT := Aside0.mk hrt
    obtain ⟨A, c, l'⟩ := rt
    have hc' : wr.cell? ⟨B, 0, none⟩ = some (.slice A l'.length c) := hc
    clear hc hrt
    by_cases hlt : t < N
    · cases l' with
      | nil => exact absurd (by rw [HRT.out]) (hgo t hlt)
      | cons x l' =>
        gi_wp2
        gi_loopg [3] (runLen (x :: l')) (fun kq v3 w' => ∃ m : Nat, v3 = .int .i64 ((m + 1 : Nat) : Int) ∧ m + 1 ≤ runLen (x :: l') ∧ Aside0 (kq = runLen (x :: l') - m) ∧ Aside0 (J t w'))
        case atStart => exact ⟨0, rfl, runLen_pos x l', ⟨rfl⟩, HJ⟩
        case round =>
          obtain ⟨m, rfl, hm, HKM, HJM⟩ := hrel
          obtain ⟨hc, hf, hC, hcap⟩ := hJ t _ HJM.out
          rw [HRT.out] at hc hC hcap
          have hrl := runLen_le (x :: l')
          have hlen := hC.2.1
          obtain ⟨ad, ea, k0, k1, k2, k3⟩ := at_T24 hC 0 (Int.le_refl 0) (by show (0 : Int) < ((x :: l').length : Int); simp)
          have ea' : A = some ad := ea
          subst ea'
          have ez : ad.add ((0 : Int).toNat * 4) = ad := by simp [Addr.add]
          rw [ez] at k0
          have kx : rd_T24 (x :: l') 0 = x := rfl
          have k0' : wr.cell? ad = some (.string x.f0) := k0
          have hc2 : wr.cell? ⟨B, 0, none⟩ = some (.slice (some ad) (x :: l').length c) := hc
          clear hc k0 hc'
          by_cases hml : m + 1 < (x :: l').length
          · obtain ⟨ad2, ea2, j0, j1, j2, j3⟩ := at_T24 hC ((m + 1 : Nat) : Int) (Int.natCast_nonneg _) (by show ((m + 1 : Nat) : Int) < ((x :: l').length : Int); omega)
            have ea3 : ad = ad2 := by injection ea2
            subst ea3
            rw [Int.toNat_natCast] at j0
            have q1 : ((m : Int) + 1 < (x :: l').length) = True := eq_true (by omega)
            have q2 : (((m + 1 : Nat) : Int) < ((x :: l').length : Int)) = True := eq_true (by omega)
            have q3 : decide (((m + 1 : Nat) : Int) < ((x :: l').length : Int)) = true := decide_eq_true (by omega)
            have hlp : (0 : Int) < ((x :: l').length : Int) := by simp
            generalize hLL : (x :: l').length = LL at hc2 q1 q2 q3 hlp hml hrl hlen
            gi_wp2
            gi_quiet (fail)
            have HJW := Aside0.mk (hd t _ nq HJM.out)
            generalize wr.drewN nq = w2 at HJW ⊢
            by_cases hk : (rd_T24 (x :: l') ((m + 1 : Nat) : Int)).f0.toList = x.f0.toList
            · have hm2 := (run_spec x l' m hm (by have := hLL; simp at this; omega)).1 hk
              have hb1 : ((rd_T24 (x :: l') ((m : Int) + 1)).f0.toList == x.f0.toList) = true := by rw [show (m : Int) + 1 = ((m + 1 : Nat) : Int) by omega]; exact beq_iff_eq.2 hk
              rw [hb1]
              gi_wp2
              gi_roundg (runLen (x :: l') - (m + 1))
              case measure => have := HKM.out; omega
              case rel => exact ⟨m + 1, by first | rfl | (congr 1; omega), by omega, ⟨rfl⟩, HJW⟩
            · have hrm : runLen (x :: l') = m + 1 := by
                have h_ := (run_spec x l' m hm (by have := hLL; simp at this; omega))
                have : ¬ (m + 1 < runLen (x :: l')) := fun h2 => hk (h_.2 h2)
                omega
              have hb1 : ((rd_T24 (x :: l') ((m : Int) + 1)).f0.toList == x.f0.toList) = false := by rw [show (m : Int) + 1 = ((m + 1 : Nat) : Int) by omega]; exact beq_false_of_ne hk
              rw [hb1]
              have hmc : (m : Int) + 1 ≤ (c : Int) := by have h_ : (x :: l').length ≤ c := hcap; omega
              have hmc' : m + 1 ≤ c := by have h_ : (x :: l').length ≤ c := hcap; omega
              obtain ⟨fn, tmps, assign, body, hy, hR⟩ := hY t _ HJW.out hlt
              rw [HRT.out] at hy
              have hrun : runLen (Raw.mk (some ad) c (x :: l')).l = m + 1 := hrm
              rw [hrun] at hy
              have hw0 := (hJ t _ HJW.out).1
              rw [HRT.out] at hw0
              have hw : w2.cell? ⟨B, 0, none⟩ = some (.slice (some ad) (x :: l').length c) := hw0
              rw [hLL] at hw
              clear hw0
              gi_wp2
              refine hR.mono ?_
              rintro e W3 ⟨rfl, hJ3⟩
              obtain ⟨h3c, h3f, h3C, h3cap⟩ := hJ' t _ hJ3
              rw [HRT.out] at h3c
              have h3 : W3.cell? ⟨B, 0, none⟩ = some (.slice (some ad) (x :: l').length c) := h3c
              rw [hLL] at h3
              clear h3c
              have HJ3 := Aside0.mk hJ3
              clear hJ3 hw hc2
              have hle : (m : Int) + 1 ≤ (LL : Int) := by omega
              gi_wp2
              gi_roundg (N - (t + 1))
              case measure => have := HK.out; omega
              case rel =>
                refine ⟨t + 1, by omega, ⟨rfl⟩, ⟨hcl t W3 _ HJ3.out ⟨0, ?_⟩⟩⟩
                have e : (r.at (t + 1)) = (r.at t).next := rfl
                rw [e, HRT.out]
                show _ = W3.setCell ⟨B, 0, none⟩ (.slice (if c = runLen (x :: l') then some ad else (some ad).map (·.add (runLen (x :: l') * 4))) ((x :: l').drop (runLen (x :: l'))).length (c - runLen (x :: l')))
                rw [hrm, List.length_drop, hLL, if_neg (by have h_ : (x :: l').length ≤ c := hcap; omega)]
                rfl
          · have hrm : runLen (x :: l') = m + 1 := by omega
            have hLL : (x :: l').length = m + 1 := by omega
            rw [hLL] at hc2
            gi_wp2
            gi_quiet (fail)
            have HJW := Aside0.mk (hd t _ nq HJM.out)
            generalize wr.drewN nq = w2 at HJW ⊢
            have hmc : (m : Int) + 1 ≤ (c : Int) := by have h_ : (x :: l').length ≤ c := hcap; omega
            have hmc' : m + 1 ≤ c := by have h_ : (x :: l').length ≤ c := hcap; omega
            obtain ⟨fn, tmps, assign, body, hy, hR⟩ := hY t _ HJW.out hlt
            rw [HRT.out] at hy
            have hrun : runLen (Raw.mk (some ad) c (x :: l')).l = m + 1 := hrm
            rw [hrun] at hy
            have hw0 := (hJ t _ HJW.out).1
            rw [HRT.out] at hw0
            have hw : w2.cell? ⟨B, 0, none⟩ = some (.slice (some ad) (x :: l').length c) := hw0
            rw [hLL] at hw
            clear hw0
            gi_wp2
            refine hR.mono ?_
            rintro e W3 ⟨rfl, hJ3⟩
            obtain ⟨h3c, h3f, h3C, h3cap⟩ := hJ' t _ hJ3
            rw [HRT.out] at h3c
            have h3 : W3.cell? ⟨B, 0, none⟩ = some (.slice (some ad) (x :: l').length c) := h3c
            rw [hLL] at h3
            clear h3c
            have HJ3 := Aside0.mk hJ3
            clear hJ3 hw hc2
            skip
            by_cases hcm : c = m + 1
            · have hcm1 : (c = m + 1) = True := eq_true hcm
              gi_wp2
              gi_roundg (N - (t + 1))
              case measure => have := HK.out; omega
              case rel =>
                refine ⟨t + 1, by omega, ⟨rfl⟩, ⟨hcl t W3 _ HJ3.out ⟨0, ?_⟩⟩⟩
                have e : (r.at (t + 1)) = (r.at t).next := rfl
                rw [e, HRT.out]
                show _ = W3.setCell ⟨B, 0, none⟩ (.slice (if c = runLen (x :: l') then some ad else (some ad).map (·.add (runLen (x :: l') * 4))) ((x :: l').drop (runLen (x :: l'))).length (c - runLen (x :: l')))
                rw [hrm, List.length_drop, hLL, if_pos hcm]
                rw [Nat.sub_self, show c - (m + 1) = 0 by omega]
            · have hcm1 : (c = m + 1) = False := eq_false hcm
              gi_wp2
              gi_roundg (N - (t + 1))
              case measure => have := HK.out; omega
              case rel =>
                refine ⟨t + 1, by omega, ⟨rfl⟩, ⟨hcl t W3 _ HJ3.out ⟨0, ?_⟩⟩⟩
                have e : (r.at (t + 1)) = (r.at t).next := rfl
                rw [e, HRT.out]
                show _ = W3.setCell ⟨B, 0, none⟩ (.slice (if c = runLen (x :: l') then some ad else (some ad).map (·.add (runLen (x :: l') * 4))) ((x :: l').drop (runLen (x :: l'))).length (c - runLen (x :: l')))
                rw [hrm, List.length_drop, hLL, if_neg hcm]
                rw [Nat.sub_self]
                rfl
    · obtain rfl : t = N := by omega
      have hl : l' = [] := by have := hend; rw [HRT.out] at this; exact this
      subst hl
      gi_wp2
      go_end0
      exact ⟨⟨_, rfl⟩, HJ.out⟩
end Go.Proofs.Ytdpnhnfhobmopaa.P
