/- The law FilterOr in plain mathematics. -/
import Derived.Test.YtifoofgdfaaaoaaPureFilterNever
import Derived.Test.YtifoofgdfaaaoaaPL1e
set_option linter.unusedVariables false
set_option linter.unusedSimpArgs false
namespace Go.Proofs.Ytifoofgdfaaaoaa.Pure
open Go.RowKit Go.Proofs.Ytifoofgdfaaaoaa.P Go.Proofs.YtifoofgdfaaaoaaW.PrintWords Go.Proofs.YtifoofgdfaaaoaaW.PrintLast Go.Proofs.YtifoofgdfaaaoaaW.PrintMore

theorem isBytes_or {a b : List Int} (ha : isBytes a = true) (n : Nat) : isBytes (orTo a b n) = true := isBytes_orTo ha b n
theorem or_ok (key : ByteArray) (hkey : key.size ≤ 140737488351232) (X Y : List Int)
    (N K : Nat) (lX : X.length = N + 1) (lY : Y.length = N + 1) (kX : rd X (N : Int) = (K : Int)) (kY : rd Y (N : Int) = (K : Int)) (yX : isBytes X = true) (yY : isBytes Y = true) (h8 : 8 ≤ N) (hN : N ≤ 262144) (h1 : 1 ≤ K) (h30 : K ≤ 30) :
    EvS (fun k => atriumlaw07_FilterOr.j1 k key X 0 Y 0 false) true := by
  obtain ⟨lM, kM, cM, mM, hM⟩ := merged_facts X Y N K lX lY kX kY yX yY h8 hN h1 h30
  obtain ⟨_, _, _, _, hM2⟩ := merged_facts Y X N K lY lX kY kX yY yX h8 hN h1 h30
  have hcm : orTo Y X N = orTo X Y N := orTo_comm N lY lX (by rw [kX, kY])
  rw [hcm] at hM2
  have yM := isBytes_or (b := Y) yX N
  obtain ⟨_, _, _, _, hM3⟩ := merged_facts (orTo X Y N) X N K lM lX kM kX yM yX h8 hN h1 h30
  rw [orTo_again N lX] at hM3
  have cX := check_of _ _ lX h8 hN _ kX h1 h30
  have cY := check_of _ _ lY h8 hN _ kY h1 h30
  have sX : X.length < 140737488355328 := by omega
  have sY : Y.length < 140737488355328 := by omega
  have sM : (orTo X Y N).length < 140737488355328 := by omega
  have sM2 : (orTo X Y N).length ≤ 140737488355328 := by omega
  have hoX := ones_any X N lX yX cX sX
  have hoY := ones_any Y N lY yY cY sY
  have hoM := ones_any _ N lM yM cM sM
  have oo := ones_orTo yX yY N (by rw [lX]; exact Nat.le_succ _) (by rw [lY]; exact Nat.le_succ _)
  have nX := ones_nonneg _ (isBytes_take yX N)
  have nY := ones_nonneg _ (isBytes_take yY N)
  have tX : ((X.take N).length : Int) ≤ 262144 := by rw [List.length_take]; omega
  have tY : ((Y.take N).length : Int) ≤ 262144 := by rw [List.length_take]; omega
  have fX := may_any X key cX sX hkey
  have fY := may_any Y key cY sY hkey
  have fM := may_any _ key cM sM hkey
  have mM := mM key
  have mX2 := merge_impl (orTo X Y N) X sM sX
  rw [hM3] at mX2
  have m1 := merge_impl X Y sX sY
  rw [hM] at m1
  have m2 := merge_impl Y X sY sX
  rw [hM2] at m2
  generalize mayOf X key = px at *
  generalize mayOf Y key = py at *
  generalize mayOf (orTo X Y N) key = pm at *
  generalize onesOf (X.take N) = ox at *
  generalize onesOf (Y.take N) = oy at *
  generalize onesOf ((orTo X Y N).take N) = om at *
  generalize orTo X Y N = M at *
  have hsum : wrap64 (ox + oy) = ox + oy := by
    have b0 : 0 ≤ ox + oy := by omega
    have b1 : ox + oy ≤ 4611686018427387904 := by omega
    exact wrap_id _ b0 b1
  have hge : om ≥ ox := oo.1
  have hle : decide (om ≤ ox + oy) = true := decide_eq_true oo.2
  have last : EvS (fun k => atriumlaw07_FilterOr.j3 k X Y M false) true := by
    refine EvS.step (h := fun k => (filter_Merge.f k M X).bind fun bt261 => (if bt261.2 = 0 then ((atriumlaw07_sameBytes.f k bt261.1 M).bind fun t265 => (if t265 = true then some true else (some false))) else (some false))) (fun k => ?_) ?_
    · simp only [atriumlaw07_FilterOr.j3]
      rw [if_neg (by decide), hoM, hoX, hoY]
      simp only [Option.bind_some, if_pos hge, hsum, hle]
    · refine EvS.bind mX2 ?_
      simp only [if_true]
      refine EvS.bind (same_refl M sM2) ?_
      exact EvS.const (by rw [if_pos rfl])
  refine EvS.step (h := fun k => (filter_Merge.f k X Y).bind fun bt248 => ((filter_Merge.f k Y X).bind fun bt252 => (if bt248.2 = 0 then (if bt252.2 = 0 then ((atriumlaw07_sameBytes.f k bt248.1 bt252.1).bind fun t256 => (atriumlaw07_FilterOr.j2 k key X Y bt248.1 (!t256))) else (atriumlaw07_FilterOr.j2 k key X Y bt248.1 true)) else (atriumlaw07_FilterOr.j2 k key X Y bt248.1 true)))) (fun k => ?_) ?_
  · simp only [atriumlaw07_FilterOr.j1]
    rw [if_neg (by decide)]
  refine EvS.bind m1 (EvS.bind m2 ?_)
  simp only [if_true]
  refine EvS.bind (same_refl M sM2) ?_
  refine EvS.step (h := fun k => atriumlaw07_FilterOr.j3 k X Y M false) (fun k => ?_) last
  simp only [atriumlaw07_FilterOr.j2]
  rw [fX, fY, fM]
  cases px <;> cases py <;> cases pm <;> first | rfl | (exfalso; simp at mM)
theorem FilterOr (l0 l1 : List ByteArray) (a2 : Int) (a3 : ByteArray) (ok0 : (∀ x ∈ l0, x.size ≤ 140737488351232) ∧ l0.length * 16 ≤ 140737488351232) (ok1 : (∀ x ∈ l1, x.size ≤ 140737488351232) ∧ l1.length * 16 ≤ 140737488351232) (w2 : (Lit.int .i64 a2).wf = true) (w3 : a3.size ≤ 140737488351232) :
    ∃ k, atriumlaw07_FilterOr.f k l0 l1 a2 a3 = some true := by
  apply EvS.ex
  obtain ⟨n, hn0, hn1, hn⟩ : ∃ n : Nat, n ≤ l0.length ∧ n ≤ l1.length ∧ ∀ k, atriumlaw07_FilterOr.f k l0 l1 a2 a3 = atriumlaw07_FilterOr.j0 k l0 l1 a2 a3 (n : Int) := by
    by_cases h : (l1.length : Int) < (l0.length : Int)
    · refine ⟨l1.length, by omega, by omega, fun k => ?_⟩
      unfold atriumlaw07_FilterOr.f
      rw [lives_true, Option.bind_some, if_pos rfl, if_pos h]
    · refine ⟨l0.length, by omega, by omega, fun k => ?_⟩
      unfold atriumlaw07_FilterOr.f
      rw [lives_true, Option.bind_some, if_pos rfl, if_neg h]
  refine EvS.congr hn ?_
  have hA : (l0.take n).length = n := by rw [List.length_take]; omega
  have hB : (l1.take n).length = n := by rw [List.length_take]; omega
  have bA := build_any (l0.take n) a2 (fun x hx => ok0.1 x (List.mem_of_mem_take hx))
  have bB := build_any (l1.take n) a2 (fun x hx => ok1.1 x (List.mem_of_mem_take hx))
  have c1 : (0 : Int) ≤ (n : Int) := by omega
  have c2 : (n : Int) ≤ (l0.length : Int) := by omega
  have c3 : (n : Int) ≤ (l1.length : Int) := by omega
  have bad : ∀ e : Int, e ≠ 0 → buildOf (l0.take n) a2 = ([], e) → buildOf (l1.take n) a2 = ([], e) → EvS (fun k => atriumlaw07_FilterOr.j0 k l0 l1 a2 a3 (n : Int)) true := by
    intro e he eA eB
    refine EvS.step (h := fun k => atriumlaw07_FilterOr.j1 k a3 [] e [] e true) (fun k => ?_) (EvS.step (h := fun _ => some true) (fun k => ?_) (EvS.const rfl))
    · simp only [atriumlaw07_FilterOr.j0]
      rw [Int.toNat_natCast, bA, bB, eA, eB, if_pos c1, if_pos c2, Option.bind_some, if_pos c3, Option.bind_some, if_neg he]
    · simp only [atriumlaw07_FilterOr.j1, if_true, beq_self_eq_true]
  by_cases hbad : a2 < 1 ∨ a2 > 32
  · exact bad 1 (by decide) (by unfold buildOf; rw [if_pos hbad]) (by unfold buildOf; rw [if_pos hbad])
  · by_cases hbig : n > 65536
    · exact bad 3 (by decide) (by unfold buildOf; rw [if_neg hbad, if_pos (by omega)]) (by unfold buildOf; rw [if_neg hbad, if_pos (by omega)])
    · have h1 : 1 ≤ a2 := by omega
      have h32 : a2 ≤ 32 := by omega
      have hnb : n ≤ 65536 := by omega
      have eA : buildOf (l0.take n) a2 = (buildBytes (l0.take n) a2, 0) := by unfold buildOf; rw [if_neg hbad, if_neg (by omega)]
      have eB : buildOf (l1.take n) a2 = (buildBytes (l1.take n) a2, 0) := by unfold buildOf; rw [if_neg hbad, if_neg (by omega)]
      have hbf := bytesFor_bd n a2 hnb h1 h32
      have hpf := placesFor_bd a2 h1 h32
      have hbp : 0 < bytesFor n a2 := Nat.lt_of_lt_of_le (by decide) hbf.1
      have lA := build_length (l0.take n) a2
      have lB := build_length (l1.take n) a2
      have kA := build_last (l0.take n) a2 (by rw [hA]; exact hbp)
      have kB := build_last (l1.take n) a2 (by rw [hB]; exact hbp)
      rw [hA] at lA kA
      rw [hB] at lB kB
      refine EvS.step (h := fun k => atriumlaw07_FilterOr.j1 k a3 (buildBytes (l0.take n) a2) 0 (buildBytes (l1.take n) a2) 0 false) (fun k => ?_) ?_
      · simp only [atriumlaw07_FilterOr.j0]
        rw [Int.toNat_natCast, bA, bB, eA, eB, if_pos c1, if_pos c2, Option.bind_some, if_pos c3, Option.bind_some, if_pos rfl]
        rfl
      exact or_ok a3 w3 _ _ (bytesFor n a2) (placesFor a2) lA lB kA kB (isBytes_build _ _ h1 h32) (isBytes_build _ _ h1 h32) hbf.1 hbf.2 hpf.1 hpf.2
end Go.Proofs.Ytifoofgdfaaaoaa.Pure
