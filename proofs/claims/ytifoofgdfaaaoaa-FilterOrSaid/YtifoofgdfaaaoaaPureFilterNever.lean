/- The law FilterNever in plain mathematics. -/
import Derived.Test.YtifoofgdfaaaoaaQ4
import Derived.Test.YtifoofgdfaaaoaaPL1d
set_option linter.unusedVariables false
set_option linter.unusedSimpArgs false
namespace Go.Proofs.Ytifoofgdfaaaoaa.Pure
open Go.RowKit Go.Proofs.Ytifoofgdfaaaoaa.P Go.Proofs.YtifoofgdfaaaoaaW.PrintWords Go.Proofs.YtifoofgdfaaaoaaW.PrintLast Go.Proofs.YtifoofgdfaaaoaaW.PrintMore

theorem build_any (keys : List ByteArray) (b : Int) (h : ∀ x ∈ keys, x.size ≤ 140737488351232) : filter_Build.f keys b = some (buildOf keys b) := by
  unfold filter_Build.f
  rw [if_pos]
  rw [List.all_eq_true]
  exact fun s hs => decide_eq_true (h s hs)
theorem may_any (l : List Int) (s : ByteArray) (hc : filter_Check.f l = some 0) (hl : l.length < 140737488355328) (hs : s.size ≤ 140737488351232) : filter_May.f l s = some (mayOf l s) := by
  unfold filter_May.f
  rw [if_pos ⟨hs, hl⟩, if_pos hc]
theorem ones_any (l : List Int) (N : Nat) (hN : l.length = N + 1) (hb : isBytes l = true) (hc : filter_Check.f l = some 0) (hl : l.length < 140737488355328) : filter_Ones.f l = some (onesOf (l.take N)) := by
  unfold filter_Ones.f
  rw [if_pos ⟨hb, hl⟩, if_pos hc, hN]
  rfl
theorem rdOf_mem {l : List ByteArray} (i : Nat) (h : i < l.length) : rdOf ByteArray.empty l (i : Int) ∈ l := by
  simp only [rdOf, Int.toNat_natCast, List.getD_eq_getElem?_getD]
  rw [List.getElem?_eq_getElem h]
  exact List.getElem_mem h
theorem rdOf_take {l : List ByteArray} (i n : Nat) (h : i < l.length) (hn : i < n) : rdOf ByteArray.empty l (i : Int) ∈ l.take n := by
  have := rdOf_mem (l := l.take n) i (by rw [List.length_take]; omega)
  simp only [rdOf, Int.toNat_natCast, List.getD_eq_getElem?_getD] at this ⊢
  rw [List.getElem?_take_of_lt hn] at this
  exact this
def turned (l : List ByteArray) (n j : Nat) : List ByteArray := (l.take n).reverse.take j ++ List.replicate (n - j) (⟨#[]⟩ : ByteArray)
theorem turned_length (l : List ByteArray) (n j : Nat) (hn : n ≤ l.length) (hj : j ≤ n) : (turned l n j).length = n := by
  unfold turned
  simp
  omega
theorem turned_zero (l : List ByteArray) (n : Nat) : turned l n 0 = List.replicate n (⟨#[]⟩ : ByteArray) := by unfold turned; simp
theorem turned_all (l : List ByteArray) (n : Nat) (hn : n ≤ l.length) : turned l n n = (l.take n).reverse := by
  unfold turned
  rw [Nat.sub_self, List.replicate_zero, List.append_nil, List.take_of_length_le (by simp; omega)]
theorem turned_set (l : List ByteArray) (n j : Nat) (hn : n ≤ l.length) (hj : j < n) : (turned l n j).set j (rdOf ByteArray.empty l (((n - 1 - j : Nat)) : Int)) = turned l n (j + 1) := by
  have hlt : j < (l.take n).reverse.length := by simp; omega
  have e : rdOf ByteArray.empty l (((n - 1 - j : Nat)) : Int) = (l.take n).reverse[j] := by
    rw [List.getElem_reverse, List.getElem_take]
    have e2 : (l.take n).length - 1 - j = n - 1 - j := by rw [List.length_take]; omega
    simp only [rdOf, Int.toNat_natCast, List.getD_eq_getElem?_getD, e2]
    rw [List.getElem?_eq_getElem (by omega)]
    rfl
  rw [e]
  unfold turned
  rw [List.set_append_right _ _ (by simp; omega), List.take_succ_eq_append_getElem hlt, List.append_assoc]
  have e3 : j - ((l.take n).reverse.take j).length = 0 := by simp; omega
  have e4 : n - j = (n - (j + 1)) + 1 := by omega
  rw [e3, e4, List.replicate_succ]
  rfl
theorem turn_rr (n j m : Nat) (hn : n ≤ 65536) (hm : n ≤ m) (hj : j < n) : wrap64 (wrap64 ((n : Int) - 1) - (j : Int)) = ((n - 1 - j : Nat) : Int) ∧ (0 : Int) ≤ ((n - 1 - j : Nat) : Int) ∧ ((n - 1 - j : Nat) : Int) < (m : Int) ∧ (0 : Int) ≤ (j : Int) ∧ (j : Int) < (n : Int) := by
  have c : (0 : Int) ≤ ((n - 1 - j : Nat) : Int) ∧ ((n - 1 - j : Nat) : Int) < (m : Int) ∧ (0 : Int) ≤ (j : Int) ∧ (j : Int) < (n : Int) := by omega
  have f1 : (n : Int) - 1 = ((n - 1 : Nat) : Int) := by omega
  have f2 : ((n - 1 : Nat) : Int) - (j : Int) = ((n - 1 - j : Nat) : Int) := by omega
  have b1 : ((n - 1 : Nat) : Int) ≤ 4611686018427387904 := by omega
  have b2 : ((n - 1 - j : Nat) : Int) ≤ 4611686018427387904 := by omega
  refine ⟨?_, c⟩
  rw [f1, wrap_id _ (Int.natCast_nonneg _) b1, f2, wrap_id _ (Int.natCast_nonneg _) b2]
theorem never_l1 (l0 : List ByteArray) (b : Int) (n : Nat) (hn : n ≤ l0.length) (hk : ∀ x ∈ l0, x.size ≤ 140737488351232) (hn2 : n ≤ 65536) (h1 : 1 ≤ b) (h32 : b ≤ 32) (d : Nat) : ∀ j : Nat, j ≤ n → n - j = d →
    EvS (fun k => atriumlaw07_FilterNever.l1 k l0 b (n : Int) (buildBytes (l0.take n) b) (turned l0 n j) (j : Int)) true := by
  have hA : (l0.take n).length = n := by rw [List.length_take]; omega
  induction d with
  | zero =>
    intro j hj hd
    obtain rfl : j = n := by omega
    have hrev : buildBytes (l0.take j).reverse b = buildBytes (l0.take j) b := by
      unfold buildBytes
      rw [List.length_reverse, keysBits_reverse]
    have hb : filter_Build.f (turned l0 j j) b = some (buildBytes (l0.take j) b, 0) := by
      rw [turned_all l0 j hn, build_any _ _ (fun x hx => hk x (List.mem_of_mem_take (List.mem_reverse.1 hx)))]
      unfold buildOf
      rw [if_neg (by omega), if_neg (by rw [List.length_reverse, hA]; omega), hrev]
    have hlen : (buildBytes (l0.take j) b).length ≤ 140737488355328 := by
      have := bytesFor_bd (l0.take j).length b (by omega) h1 h32
      rw [build_length]
      omega
    generalize buildBytes (l0.take j) b = Z at hb hlen ⊢
    refine EvS.step (h := fun k => (atriumlaw07_sameBytes.f k Z Z).bind fun t => some t) (fun k => ?_) (EvS.bind (same_refl Z hlen) (EvS.const rfl))
    simp only [atriumlaw07_FilterNever.l1]
    rw [if_neg (by omega), hb, Option.bind_some, if_pos rfl]
  | succ d ih =>
    intro j hj hd
    refine EvS.step (h := fun k => atriumlaw07_FilterNever.l1 k l0 b (n : Int) (buildBytes (l0.take n) b) (turned l0 n (j + 1)) ((j + 1 : Nat) : Int)) (fun k => ?_) (ih (j + 1) (by omega) (by omega))
    have hjn : j < n := by omega
    have hj1 : j < 4611686018427387903 := by omega
    have e4 := turned_set l0 n j hn hjn
    have e5 := turned_length l0 n j hn hj
    obtain ⟨e2, c1, c2, c3, c4⟩ := turn_rr n j l0.length hn2 hn hjn
    have e3 := rr_n j hj1
    simp only [atriumlaw07_FilterNever.l1]
    rw [if_pos c4, e2, if_pos c1, if_pos c2, if_pos c3, e5, if_pos c4, Int.toNat_natCast, e4, e3]
theorem never_l0 (l0 l1 : List ByteArray) (b : Int) (n : Nat) (hn : n ≤ l0.length) (hm : n ≤ l1.length) (hn2 : n ≤ 65536) (X M : List Int)
    (hend : EvS (fun k => atriumlaw07_FilterNever.l1 k l0 b (n : Int) X (List.replicate n (⟨#[]⟩ : ByteArray)) 0) true)
    (ha : ∀ i : Nat, i < n → filter_May.f X (rdOf ByteArray.empty l0 (i : Int)) = some true)
    (hc0 : ∀ i : Nat, i < n → filter_May.f M (rdOf ByteArray.empty l0 (i : Int)) = some true)
    (hc1 : ∀ i : Nat, i < n → filter_May.f M (rdOf ByteArray.empty l1 (i : Int)) = some true) (d : Nat) : ∀ i : Nat, i ≤ n → n - i = d →
    EvS (fun k => atriumlaw07_FilterNever.l0 k l0 l1 b (n : Int) X M (i : Int)) true := by
  induction d with
  | zero =>
    intro i hi hd
    obtain rfl : i = n := by omega
    refine EvS.step (fun k => ?_) hend
    have c1 : ¬ (i : Int) < (i : Int) := by omega
    have c2 : (0 : Int) ≤ (i : Int) := by omega
    have c3 : i ≤ 17592186044416 := by omega
    simp only [atriumlaw07_FilterNever.l0]
    rw [Int.toNat_natCast, if_neg c1, if_pos c2, if_pos c3]
  | succ d ih =>
    intro i hi hd
    refine EvS.step (fun k => ?_) (ih (i + 1) (by omega) (by omega))
    have hi2 : i < n := by omega
    have c1 : (i : Int) < (n : Int) := by omega
    have c2 : (0 : Int) ≤ (i : Int) := by omega
    have c3 : (i : Int) < (l0.length : Int) := by omega
    have c4 : (i : Int) < (l1.length : Int) := by omega
    have hj1 : i < 4611686018427387903 := by omega
    have e3 := rr_n i hj1
    simp only [atriumlaw07_FilterNever.l0]
    rw [if_pos c1, if_pos c2, if_pos c3, ha i hi2, hc0 i hi2, hc1 i hi2, e3]
    simp only [Option.bind_some, if_true, if_pos c4]
theorem mul_rr (n K : Nat) (hn : n ≤ 65536) (hK : K ≤ 30) : wrap64 ((n : Int) * wrap64 (K : Int)) = (n : Int) * (K : Int) := by
  have hmul : (n : Int) * (K : Int) ≤ 65536 * 30 := Int.mul_le_mul (by omega) (by omega) (by omega) (by omega)
  have hmul0 : 0 ≤ (n : Int) * (K : Int) := Int.mul_nonneg (by omega) (by omega)
  rw [wrap_id (K : Int) (by omega) (by omega)]
  exact wrap_id _ hmul0 (Int.le_trans hmul (by decide))
theorem merged_facts (X Y : List Int) (N K : Nat) (lX : X.length = N + 1) (lY : Y.length = N + 1) (kX : rd X (N : Int) = (K : Int)) (kY : rd Y (N : Int) = (K : Int)) (yX : isBytes X = true) (yY : isBytes Y = true) (h8 : 8 ≤ N) (hN : N ≤ 262144) (h1 : 1 ≤ K) (h30 : K ≤ 30) :
    (orTo X Y N).length = N + 1 ∧ rd (orTo X Y N) (N : Int) = (K : Int) ∧ filter_Check.f (orTo X Y N) = some 0 ∧ (∀ s, mayOf X s = true ∨ mayOf Y s = true → mayOf (orTo X Y N) s = true) ∧ mergeOf X Y = (orTo X Y N, 0) := by
  have lM : (orTo X Y N).length = N + 1 := by rw [orTo_length, lX]
  have kM : rd (orTo X Y N) (N : Int) = (K : Int) := by
    rw [orTo_rd _ _ _ (by rw [lX]; exact Nat.le_succ _), if_neg (Nat.lt_irrefl _), kX]
  refine ⟨lM, kM, check_of _ _ lM h8 hN _ kM h1 h30, ?_, ?_⟩
  · intro s hs
    rw [mayOf_iff _ _ _ lM kM]
    intro i hi
    have hN0 : (0 : Int) < (N : Int) * 8 := by omega
    have hp := placeAt_bd (hOf s) (dOf s) ((N : Int) * 8) i hN0
    refine orTo_keeps yX yY _ (by rw [lX]; exact Nat.le_succ _) _ ?_
    rcases hs with hs | hs
    · exact .inl ((mayOf_iff _ _ _ lX kX s).1 hs i hi)
    · refine .inr ⟨(mayOf_iff _ _ _ lY kY s).1 hs i hi, ?_⟩
      generalize placeAt (hOf s) (dOf s) ((N : Int) * 8) i = p at hp ⊢
      omega
  · have hf : fits X Y := by
      refine ⟨check_of _ _ lX h8 hN _ kX h1 h30, check_of _ _ lY h8 hN _ kY h1 h30, by rw [lX, lY], ?_⟩
      rw [lX, lY, Nat.add_sub_cancel, kX, kY]
    unfold mergeOf
    rw [if_pos hf, lX, Nat.add_sub_cancel]
theorem never_ok (l0 l1 : List ByteArray) (b : Int) (n : Nat) (hn : n ≤ l0.length) (hm : n ≤ l1.length) (hn2 : n ≤ 65536) (hk0 : ∀ x ∈ l0, x.size ≤ 140737488351232) (hk1 : ∀ x ∈ l1, x.size ≤ 140737488351232) (X Y : List Int)
    (hend : EvS (fun k => atriumlaw07_FilterNever.l1 k l0 b (n : Int) X (List.replicate n (⟨#[]⟩ : ByteArray)) 0) true)
    (N K : Nat) (lX : X.length = N + 1) (lY : Y.length = N + 1) (kX : rd X (N : Int) = (K : Int)) (kY : rd Y (N : Int) = (K : Int)) (yX : isBytes X = true) (yY : isBytes Y = true) (h8 : 8 ≤ N) (hN : N ≤ 262144) (h1 : 1 ≤ K) (h30 : K ≤ 30)
    (oX : onesOf (X.take N) ≤ (n : Int) * (K : Int)) (mX : ∀ s ∈ l0.take n, mayOf X s = true) (mY : ∀ s ∈ l1.take n, mayOf Y s = true) :
    EvS (fun k => atriumlaw07_FilterNever.j1 k l0 l1 b (n : Int) X 0 Y 0 false) true := by
  obtain ⟨lM, kM, cM, mM, hM⟩ := merged_facts X Y N K lX lY kX kY yX yY h8 hN h1 h30
  have cX := check_of _ _ lX h8 hN _ kX h1 h30
  have sX : X.length < 140737488355328 := by omega
  have sY : Y.length < 140737488355328 := by omega
  have sM : (orTo X Y N).length < 140737488355328 := by omega
  have hoX := ones_any X N lX yX cX sX
  have hd : decide (onesOf (X.take N) > (n : Int) * (K : Int)) = false := decide_eq_false (Int.not_lt.2 oX)
  have hmr := mul_rr n K hn2 h30
  have hNs : N < 140737488355328 := by omega
  obtain ⟨e1, c1, c2, c3⟩ := rr_last X.length N lX hNs
  refine EvS.step (h := fun k => (filter_Merge.f k X Y).bind fun bt215 => if bt215.2 = 0 then atriumlaw07_FilterNever.j2 k l0 l1 b (n : Int) X bt215.1 false else atriumlaw07_FilterNever.j2 k l0 l1 b (n : Int) X bt215.1 true) (fun k => ?_) ?_
  · simp only [atriumlaw07_FilterNever.j1]
    rw [if_neg (by decide), hoX, e1, kX, hmr]
    simp only [Option.bind_some, hd, if_pos c1, if_pos c2]
  refine EvS.bind (merge_impl X Y sX sY) ?_
  rw [hM]
  simp only [if_true]
  refine EvS.step (h := fun k => atriumlaw07_FilterNever.l0 k l0 l1 b (n : Int) X (orTo X Y N) 0) (fun k => ?_) ?_
  · simp only [atriumlaw07_FilterNever.j2]
    rw [if_neg (by decide)]
  refine never_l0 l0 l1 b n hn hm hn2 X _ hend ?_ ?_ ?_ n 0 (Nat.zero_le _) rfl
  · intro i hi
    have hi0 : i < l0.length := Nat.lt_of_lt_of_le hi hn
    rw [may_any X _ cX sX (hk0 _ (rdOf_mem i hi0)), mX _ (rdOf_take i n hi0 hi)]
  · intro i hi
    have hi0 : i < l0.length := Nat.lt_of_lt_of_le hi hn
    rw [may_any _ _ cM sM (hk0 _ (rdOf_mem i hi0)), mM _ (.inl (mX _ (rdOf_take i n hi0 hi)))]
  · intro i hi
    have hi0 : i < l1.length := Nat.lt_of_lt_of_le hi hm
    rw [may_any _ _ cM sM (hk1 _ (rdOf_mem i hi0)), mM _ (.inr (mY _ (rdOf_take i n hi0 hi)))]
theorem FilterNever (l0 l1 : List ByteArray) (a2 : Int) (ok0 : (∀ x ∈ l0, x.size ≤ 140737488351232) ∧ l0.length * 16 ≤ 140737488351232) (ok1 : (∀ x ∈ l1, x.size ≤ 140737488351232) ∧ l1.length * 16 ≤ 140737488351232) (w2 : (Lit.int .i64 a2).wf = true) :
    ∃ k, atriumlaw07_FilterNever.f k l0 l1 a2 = some true := by
  apply EvS.ex
  obtain ⟨n, hn0, hn1, hn⟩ : ∃ n : Nat, n ≤ l0.length ∧ n ≤ l1.length ∧ ∀ k, atriumlaw07_FilterNever.f k l0 l1 a2 = atriumlaw07_FilterNever.j0 k l0 l1 a2 (n : Int) := by
    by_cases h : (l1.length : Int) < (l0.length : Int)
    · refine ⟨l1.length, by omega, by omega, fun k => ?_⟩
      unfold atriumlaw07_FilterNever.f
      rw [lives_true, Option.bind_some, if_pos rfl, if_pos h]
    · refine ⟨l0.length, by omega, by omega, fun k => ?_⟩
      unfold atriumlaw07_FilterNever.f
      rw [lives_true, Option.bind_some, if_pos rfl, if_neg h]
  refine EvS.congr hn ?_
  have hA : (l0.take n).length = n := by rw [List.length_take]; omega
  have hB : (l1.take n).length = n := by rw [List.length_take]; omega
  have bA := build_any (l0.take n) a2 (fun x hx => ok0.1 x (List.mem_of_mem_take hx))
  have bB := build_any (l1.take n) a2 (fun x hx => ok1.1 x (List.mem_of_mem_take hx))
  by_cases hbad : a2 < 1 ∨ a2 > 32
  · have eA : buildOf (l0.take n) a2 = ([], 1) := by unfold buildOf; rw [if_pos hbad]
    have eB : buildOf (l1.take n) a2 = ([], 1) := by unfold buildOf; rw [if_pos hbad]
    refine EvS.step (h := fun k => atriumlaw07_FilterNever.j1 k l0 l1 a2 (n : Int) [] 1 [] 1 true) (fun k => ?_) (EvS.step (h := fun _ => some true) (fun k => ?_) (EvS.const rfl))
    · simp only [atriumlaw07_FilterNever.j0]
      rw [Int.toNat_natCast, bA, bB, eA, eB, if_pos (by omega), if_pos (by omega), Option.bind_some, if_pos (by omega), Option.bind_some, if_neg (by decide)]
    · simp only [atriumlaw07_FilterNever.j1, if_true]
      by_cases h1 : a2 < 1
      · rw [if_pos h1]
      · rw [if_neg h1, if_pos (by omega)]
  · by_cases hbig : n > 65536
    · have eA : buildOf (l0.take n) a2 = ([], 3) := by unfold buildOf; rw [if_neg hbad, if_pos (by omega)]
      have eB : buildOf (l1.take n) a2 = ([], 3) := by unfold buildOf; rw [if_neg hbad, if_pos (by omega)]
      refine EvS.step (h := fun k => atriumlaw07_FilterNever.j1 k l0 l1 a2 (n : Int) [] 3 [] 3 true) (fun k => ?_) (EvS.step (h := fun _ => some true) (fun k => ?_) (EvS.const rfl))
      · simp only [atriumlaw07_FilterNever.j0]
        rw [Int.toNat_natCast, bA, bB, eA, eB, if_pos (by omega), if_pos (by omega), Option.bind_some, if_pos (by omega), Option.bind_some, if_neg (by decide)]
      · simp only [atriumlaw07_FilterNever.j1, if_true]
        rw [if_neg (by omega), if_neg (by omega)]
        have : (n : Int) > 65536 := by omega
        simp [this]
    · have h1 : 1 ≤ a2 := by omega
      have h32 : a2 ≤ 32 := by omega
      have hbf := bytesFor_bd n a2 (by omega) h1 h32
      have hpf := placesFor_bd a2 h1 h32
      have hnb : n ≤ 65536 := by omega
      have eA : buildOf (l0.take n) a2 = (buildBytes (l0.take n) a2, 0) := by unfold buildOf; rw [if_neg hbad, if_neg (by omega)]
      have eB : buildOf (l1.take n) a2 = (buildBytes (l1.take n) a2, 0) := by unfold buildOf; rw [if_neg hbad, if_neg (by omega)]
      have hA2 : (l0.take n).length ≤ 65536 := by omega
      have hB2 : (l1.take n).length ≤ 65536 := by omega
      have c1 : (0 : Int) ≤ (n : Int) := by omega
      have c2 : (n : Int) ≤ (l0.length : Int) := by omega
      have c3 : (n : Int) ≤ (l1.length : Int) := by omega
      have hbf := bytesFor_bd n a2 hnb h1 h32
      have hpf := placesFor_bd a2 h1 h32
      have hbp : 0 < bytesFor n a2 := Nat.lt_of_lt_of_le (by decide) hbf.1
      have lA := build_length (l0.take n) a2
      have lB := build_length (l1.take n) a2
      have kA := build_last (l0.take n) a2 (by rw [hA]; exact hbp)
      have kB := build_last (l1.take n) a2 (by rw [hB]; exact hbp)
      have oA := ones_build (l0.take n) a2 hA2 h1 h32
      rw [hA] at lA kA oA
      rw [hB] at lB kB
      have hend := never_l1 l0 a2 n hn0 ok0.1 hnb h1 h32 n 0 (Nat.zero_le _) rfl
      rw [turned_zero] at hend
      refine EvS.step (h := fun k => atriumlaw07_FilterNever.j1 k l0 l1 a2 (n : Int) (buildBytes (l0.take n) a2) 0 (buildBytes (l1.take n) a2) 0 false) (fun k => ?_) ?_
      · simp only [atriumlaw07_FilterNever.j0]
        rw [Int.toNat_natCast, bA, bB, eA, eB, if_pos c1, if_pos c2, Option.bind_some, if_pos c3, Option.bind_some, if_pos rfl]
        rfl
      exact never_ok l0 l1 a2 n hn0 hn1 hnb ok0.1 ok1.1 _ _ hend (bytesFor n a2) (placesFor a2) lA lB kA kB (isBytes_build _ _ h1 h32) (isBytes_build _ _ h1 h32) hbf.1 hbf.2 hpf.1 hpf.2 oA (fun s hs => may_build _ a2 hA2 h1 h32 s hs) (fun s hs => may_build _ a2 hB2 h1 h32 s hs)
end Go.Proofs.Ytifoofgdfaaaoaa.Pure
