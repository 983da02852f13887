/- Contracts proved by hand: container/heap over the heads. -/
import Derived.Test.YtdpnhnfhobmopaaH1a
namespace Go.Proofs.Ytdpnhnfhobmopaa.P
open Go.RowKit Go.Proofs.YtdpnhnfhobmopaaW.PrintWords Go.Proofs.YtdpnhnfhobmopaaW.PrintLast Go.Proofs.YtdpnhnfhobmopaaW.PrintMore
set_option linter.unusedVariables false
set_option linter.unusedSimpArgs false

def stepTo (lp : List Hd → Nat → Option (List Hd × Nat)) (hs : List Hd) (i j : Nat) : Option (List Hd × Nat) :=
  if lessH (hs.getD j zHd) (hs.getD i zHd) = true then lp (swapH hs i j) j else some (hs, i)
def downL (n : Nat) : Nat → List Hd → Nat → Option (List Hd × Nat)
  | 0, _, _ => none
  | k + 1, hs, i =>
    if n ≤ 2 * i + 1 then some (hs, i)
    else if 2 * i + 2 < n then
      (if lessH (hs.getD (2 * i + 2) zHd) (hs.getD (2 * i + 1) zHd) = true then stepTo (downL n k) hs i (2 * i + 2) else stepTo (downL n k) hs i (2 * i + 1))
    else stepTo (downL n k) hs i (2 * i + 1)
set_option maxHeartbeats 4000000 in
set_option maxRecDepth 100000 in
theorem down_calls (k : Nat) (w0 W : World) (hp g cap : Nat) (hs : List Hd) (i n : Nat) (hin : i ≤ 1000) (hn : n ≤ hs.length) (hpos : ∀ j, j < n → 0 < (hs.getD j zHd).l.length) (ha : HA w0 W hp g cap hs) (r : List Hd × Nat) (h : downL n k hs i = some r) :
    Calls Try.prog 41 #[.iface 53 (.pointer (some ⟨hp, 0, none⟩)), .int .i64 i, .int .i64 n] W fun e W' => e = .returned (.bool (decide (i < r.2))) ∧ HA w0 W' hp g cap r.1 ∧ Oth w0.heap.size g hp W W' := by
  have HA0 := Aside0.mk ha
  have HP := Aside0.mk hpos
  have H' := Aside0.mk h
  have HN := Aside0.mk hn
  have hsm := ha.small
  have HO := Aside0.mk (Oth.refl w0.heap.size g hp W)
  clear ha hpos h
  go_enter Try.func41, Try.ntmps41
  go_wp2
  go_loopg [7] k (fun kq v7 w' => ∃ (i' : Nat) (hs' : List Hd), v7 = .int .i64 i' ∧ i' ≤ 1000 ∧ Aside0 (hs'.length = hs.length) ∧ Aside0 (∀ j, j < n → 0 < (hs'.getD j zHd).l.length) ∧ Aside0 (downL n kq hs' i' = some r) ∧ Aside0 (kq ≤ k) ∧ Aside0 (HA w0 w' hp g cap hs') ∧ Aside0 (Oth w0.heap.size g hp W w'))
  case atStart => exact ⟨i, hs, rfl, hin, ⟨rfl⟩, HP, H', ⟨Nat.le_refl _⟩, HA0, HO⟩
  case round =>
    clear H' HP HA0 HO
    obtain ⟨i', hs', rfl, hi', hl', HP, HH, HK, HA1, HO⟩ := hrel
    cases gk with
    | zero => exact absurd HH.out (by simp [downL])
    | succ k1 =>
      have H := HH.out
      clear HH
      simp only [downL] at H
      have hn' : n ≤ hs'.length := by rw [hl'.out]; exact HN.out
      have hn1 : n ≤ 1000 := Nat.le_trans HN.out hsm
      have hmL := HA1.out.mLess
      by_cases c1 : n ≤ 2 * i' + 1
      · rw [if_pos c1] at H
        obtain rfl := Option.some.inj H
        go_wp2
        go_ret
        exact ⟨rfl, HA1.out, HO.out⟩
      · rw [if_neg c1] at H
        by_cases c2 : 2 * i' + 2 < n
        · rw [if_pos c2] at H
          by_cases c3 : lessH (hs'.getD (2 * i' + 2) zHd) (hs'.getD (2 * i' + 1) zHd) = true
          · rw [if_pos c3] at H
            unfold stepTo at H
            by_cases c4 : lessH (hs'.getD (2 * i' + 2) zHd) (hs'.getD i' zHd) = true
            · rw [if_pos c4] at H
              go_wp2_with (first | (go_at_call 64; refine (HA1.out.less' (2 * i' + 2) (2 * i' + 1) _ _ (by omega) (by omega) (by omega) (by omega) (HP.out _ (by omega)) (HP.out _ (by omega)) true c3).mono ?_; rintro e w1 ⟨rfl, ha1, ho1⟩; have HAx := Aside0.mk ha1; have HOx := Aside0.mk (HO.out.trans ho1); have hmX := HAx.out.mLess; clear ha1 ho1) | (go_at_call 64; refine (HAx.out.less' (2 * i' + 2) i' _ _ (by omega) rfl (by omega) (by omega) (HP.out _ (by omega)) (HP.out _ (by omega)) true c4).mono ?_; rintro e w2 ⟨rfl, ha2, ho2⟩; have HAy := Aside0.mk ha2; have HOy := Aside0.mk (HOx.out.trans ho2); have hmS := HAy.out.mSwap; clear ha2 ho2) | (go_at_call 66; refine (HAy.out.swap' i' (2 * i' + 2) _ _ rfl (by omega) (by omega) (by omega)).mono ?_; rintro e w3 ⟨rfl, ha3, ho3⟩; have HAz := Aside0.mk ha3; have HOz := Aside0.mk (HOy.out.trans ho3); clear ha3 ho3))
              go_roundg k1
              case measure => have := HK.out; omega
              case rel => exact ⟨2 * i' + 2, swapH hs' i' (2 * i' + 2), by first | rfl | (congr 1; omega) | (simp; done), by omega, ⟨by rw [swapH_length]; exact hl'.out⟩, ⟨swapH_pos (by omega) (by omega) (by omega) HP.out⟩, ⟨H⟩, ⟨by have := HK.out; omega⟩, HAz, HOz⟩
            · rw [if_neg c4] at H
              have c4' := Bool.eq_false_iff.mpr c4
              obtain rfl := Option.some.inj H
              go_wp2_with (first | (go_at_call 64; refine (HA1.out.less' (2 * i' + 2) (2 * i' + 1) _ _ (by omega) (by omega) (by omega) (by omega) (HP.out _ (by omega)) (HP.out _ (by omega)) true c3).mono ?_; rintro e w1 ⟨rfl, ha1, ho1⟩; have HAx := Aside0.mk ha1; have HOx := Aside0.mk (HO.out.trans ho1); have hmX := HAx.out.mLess; clear ha1 ho1) | (go_at_call 64; refine (HAx.out.less' (2 * i' + 2) i' _ _ (by omega) rfl (by omega) (by omega) (HP.out _ (by omega)) (HP.out _ (by omega)) false c4').mono ?_; rintro e w2 ⟨rfl, ha2, ho2⟩; have HAy := Aside0.mk ha2; have HOy := Aside0.mk (HOx.out.trans ho2); have hmS := HAy.out.mSwap; clear ha2 ho2))
              go_ret
              exact ⟨rfl, HAy.out, HOy.out⟩
          · rw [if_neg c3] at H
            have c3' := Bool.eq_false_iff.mpr c3
            unfold stepTo at H
            by_cases c4 : lessH (hs'.getD (2 * i' + 1) zHd) (hs'.getD i' zHd) = true
            · rw [if_pos c4] at H
              go_wp2_with (first | (go_at_call 64; refine (HA1.out.less' (2 * i' + 2) (2 * i' + 1) _ _ (by omega) (by omega) (by omega) (by omega) (HP.out _ (by omega)) (HP.out _ (by omega)) false c3').mono ?_; rintro e w1 ⟨rfl, ha1, ho1⟩; have HAx := Aside0.mk ha1; have HOx := Aside0.mk (HO.out.trans ho1); have hmX := HAx.out.mLess; clear ha1 ho1) | (go_at_call 64; refine (HAx.out.less' (2 * i' + 1) i' _ _ (by omega) rfl (by omega) (by omega) (HP.out _ (by omega)) (HP.out _ (by omega)) true c4).mono ?_; rintro e w2 ⟨rfl, ha2, ho2⟩; have HAy := Aside0.mk ha2; have HOy := Aside0.mk (HOx.out.trans ho2); have hmS := HAy.out.mSwap; clear ha2 ho2) | (go_at_call 66; refine (HAy.out.swap' i' (2 * i' + 1) _ _ rfl (by omega) (by omega) (by omega)).mono ?_; rintro e w3 ⟨rfl, ha3, ho3⟩; have HAz := Aside0.mk ha3; have HOz := Aside0.mk (HOy.out.trans ho3); clear ha3 ho3))
              go_roundg k1
              case measure => have := HK.out; omega
              case rel => exact ⟨2 * i' + 1, swapH hs' i' (2 * i' + 1), by first | rfl | (congr 1; omega) | (simp; done), by omega, ⟨by rw [swapH_length]; exact hl'.out⟩, ⟨swapH_pos (by omega) (by omega) (by omega) HP.out⟩, ⟨H⟩, ⟨by have := HK.out; omega⟩, HAz, HOz⟩
            · rw [if_neg c4] at H
              have c4' := Bool.eq_false_iff.mpr c4
              obtain rfl := Option.some.inj H
              go_wp2_with (first | (go_at_call 64; refine (HA1.out.less' (2 * i' + 2) (2 * i' + 1) _ _ (by omega) (by omega) (by omega) (by omega) (HP.out _ (by omega)) (HP.out _ (by omega)) false c3').mono ?_; rintro e w1 ⟨rfl, ha1, ho1⟩; have HAx := Aside0.mk ha1; have HOx := Aside0.mk (HO.out.trans ho1); have hmX := HAx.out.mLess; clear ha1 ho1) | (go_at_call 64; refine (HAx.out.less' (2 * i' + 1) i' _ _ (by omega) rfl (by omega) (by omega) (HP.out _ (by omega)) (HP.out _ (by omega)) false c4').mono ?_; rintro e w2 ⟨rfl, ha2, ho2⟩; have HAy := Aside0.mk ha2; have HOy := Aside0.mk (HOx.out.trans ho2); have hmS := HAy.out.mSwap; clear ha2 ho2))
              go_ret
              exact ⟨rfl, HAy.out, HOy.out⟩
        · rw [if_neg c2] at H
          unfold stepTo at H
          have HAx := HA1
          have HOx := HO
          by_cases c4 : lessH (hs'.getD (2 * i' + 1) zHd) (hs'.getD i' zHd) = true
          · rw [if_pos c4] at H
            go_wp2_with (first | (go_at_call 64; refine (HAx.out.less' (2 * i' + 1) i' _ _ (by omega) rfl (by omega) (by omega) (HP.out _ (by omega)) (HP.out _ (by omega)) true c4).mono ?_; rintro e w2 ⟨rfl, ha2, ho2⟩; have HAy := Aside0.mk ha2; have HOy := Aside0.mk (HOx.out.trans ho2); have hmS := HAy.out.mSwap; clear ha2 ho2) | (go_at_call 66; refine (HAy.out.swap' i' (2 * i' + 1) _ _ rfl (by omega) (by omega) (by omega)).mono ?_; rintro e w3 ⟨rfl, ha3, ho3⟩; have HAz := Aside0.mk ha3; have HOz := Aside0.mk (HOy.out.trans ho3); clear ha3 ho3))
            go_roundg k1
            case measure => have := HK.out; omega
            case rel => exact ⟨2 * i' + 1, swapH hs' i' (2 * i' + 1), by first | rfl | (congr 1; omega) | (simp; done), by omega, ⟨by rw [swapH_length]; exact hl'.out⟩, ⟨swapH_pos (by omega) (by omega) (by omega) HP.out⟩, ⟨H⟩, ⟨by have := HK.out; omega⟩, HAz, HOz⟩
          · rw [if_neg c4] at H
            have c4' := Bool.eq_false_iff.mpr c4
            obtain rfl := Option.some.inj H
            go_wp2_with (first | (go_at_call 64; refine (HAx.out.less' (2 * i' + 1) i' _ _ (by omega) rfl (by omega) (by omega) (HP.out _ (by omega)) (HP.out _ (by omega)) false c4').mono ?_; rintro e w2 ⟨rfl, ha2, ho2⟩; have HAy := Aside0.mk ha2; have HOy := Aside0.mk (HOx.out.trans ho2); have hmS := HAy.out.mSwap; clear ha2 ho2))
            go_ret
            exact ⟨rfl, HAy.out, HOy.out⟩
end Go.Proofs.Ytdpnhnfhobmopaa.P
