/- behind: what it makes, in plain Lean; how that lies in memory while it is made. -/
import Derived.Test.YtdibolblgchpdaaRH4
import Derived.Test.YtdibolblgchpdaaRH10
namespace Go.Proofs.Ytdibolblgchpdaa.P
open Go.RowKit Go.Proofs.YtdibolblgchpdaaW.PrintWords Go.Proofs.YtdibolblgchpdaaW.PrintLast Go.Proofs.YtdibolblgchpdaaW.PrintMore
set_option linter.unusedVariables false
set_option linter.unusedSimpArgs false
/-- Is a table of level i among a job's inputs? -/
def goneB (ins : List S63) (i : Nat) (t : S44) : Bool := ins.any fun a => (a.f0 == (i : Int)) && (a.f1 == t.f0)
def goneL (ins : List S63) (i : Nat) (l : List S44) : List S44 := l.filter (goneB ins i)
def keptL (ins : List S63) (i : Nat) (l : List S44) : List S44 := l.filter fun t => !goneB ins i t
/-- What is gathered of the tables that go: cells, bytes, the least and the greatest key. -/
structure BAcc where
  c : Int
  s : Int
  a : ByteArray
  b : ByteArray
def accS (x : BAcc) (t : S44) : BAcc :=
  ⟨x.c + t.f2, x.s + t.f1, if x.c = 0 ∨ Op.bytesLess t.f3.toList x.a.toList = true then t.f3 else x.a, if x.c = 0 ∨ Op.bytesLess x.b.toList t.f4.toList = true then t.f4 else x.b⟩
def accZ : BAcc := ⟨0, 0, ⟨#[]⟩, ⟨#[]⟩⟩
/-- What stays at level k, where levels below i and the first j tables of level i were looked at. -/
def outA (ls : List (List S44)) (ins : List S63) (i j k : Nat) : List S44 := if k < i then keptL ins k (ls.getD k []) else if k = i then keptL ins i ((ls.getD i []).take j) else []
def goneTo (ls : List (List S44)) (ins : List S63) : Nat → List S44
  | 0 => []
  | i + 1 => goneTo ls ins i ++ goneL ins i (ls.getD i [])
def accA (ls : List (List S44)) (ins : List S63) (i j : Nat) : BAcc := (goneTo ls ins i ++ goneL ins i ((ls.getD i []).take j)).foldl accS accZ
section
variable {ls : List (List S44)} {ins : List S63} {i j : Nat}
theorem outA_zero : outA ls ins 0 0 = fun _ => [] := by
  funext k
  unfold outA
  rw [if_neg (by omega)]
  split
  · simp [keptL]
  · rfl
theorem accA_zero : accA ls ins 0 0 = accZ := by simp [accA, goneTo, goneL]
theorem outA_next (hj : j < (ls.getD i []).length) : outA ls ins i (j + 1) = if goneB ins i (ls.getD i [])[j] = true then outA ls ins i j else fun k => if k = i then outA ls ins i j i ++ [(ls.getD i [])[j]] else outA ls ins i j k := by
  by_cases hg : goneB ins i (ls.getD i [])[j] = true
  · rw [if_pos hg]
    funext k
    unfold outA
    split
    · rfl
    · split
      · rw [List.take_succ_eq_append_getElem hj]
        unfold keptL
        rw [List.filter_append, List.filter_cons, if_neg (by rw [hg]; decide)]
        simp
      · rfl
  · rw [if_neg hg]
    funext k
    by_cases hk : k = i
    · subst hk
      rw [if_pos rfl]
      unfold outA
      rw [if_neg (by omega), if_pos rfl, if_neg (by omega), if_pos rfl, List.take_succ_eq_append_getElem hj]
      unfold keptL
      rw [List.filter_append, List.filter_cons, if_pos (by rw [Bool.eq_false_iff.mpr hg]; rfl)]
      simp
    · rw [if_neg hk]
      unfold outA
      rw [if_neg hk, if_neg hk]
theorem accA_next (hj : j < (ls.getD i []).length) : accA ls ins i (j + 1) = if goneB ins i (ls.getD i [])[j] = true then accS (accA ls ins i j) (ls.getD i [])[j] else accA ls ins i j := by
  unfold accA
  rw [List.take_succ_eq_append_getElem hj]
  unfold goneL
  rw [List.filter_append, List.filter_cons]
  by_cases hg : goneB ins i (ls.getD i [])[j] = true
  · rw [if_pos hg, if_pos hg, ← List.append_assoc, List.foldl_append]
    rfl
  · rw [if_neg hg, if_neg hg]
    simp
theorem outA_level (hi : i < ls.length) : outA ls ins (i + 1) 0 = outA ls ins i (ls.getD i []).length := by
  funext k
  unfold outA
  by_cases hk : k < i
  · rw [if_pos (by omega), if_pos hk]
  · by_cases hk2 : k = i
    · subst hk2
      rw [if_pos (by omega), if_neg hk, if_pos rfl, List.take_length]
    · rw [if_neg (by omega), if_neg hk, if_neg hk2]
      split
      · simp [keptL]
      · rfl
theorem accA_level : accA ls ins (i + 1) 0 = accA ls ins i (ls.getD i []).length := by
  unfold accA
  rw [List.take_length]
  simp [goneTo, goneL]
theorem goneB_take (ins : List S63) (i : Nat) (t : S44) (k : Nat) (hk : k < ins.length) : ((ins.take (k + 1)).any fun a => (a.f0 == (i : Int)) && (a.f1 == t.f0)) = (((ins.take k).any fun a => (a.f0 == (i : Int)) && (a.f1 == t.f0)) || ((ins[k].f0 == (i : Int)) && (ins[k].f1 == t.f0))) := by
  rw [List.take_succ_eq_append_getElem hk, List.any_append]
  simp
end
/-- Bounds of what is gathered. -/
theorem acc_bd : ∀ (l : List S44) (x : BAcc) (n : Nat), (∀ t ∈ l, 1 ≤ t.f1 ∧ t.f1 ≤ 1048576 ∧ 1 ≤ t.f2 ∧ t.f2 ≤ 65536) → 0 ≤ x.c ∧ x.c ≤ 65536 * n ∧ 0 ≤ x.s ∧ x.s ≤ 1048576 * n →
    0 ≤ (l.foldl accS x).c ∧ (l.foldl accS x).c ≤ 65536 * (n + l.length : Nat) ∧ 0 ≤ (l.foldl accS x).s ∧ (l.foldl accS x).s ≤ 1048576 * (n + l.length : Nat)
  | [], x, n, _, h => by simpa using h
  | t :: l, x, n, hl, h => by
    have ht := hl t List.mem_cons_self
    have := acc_bd l (accS x t) (n + 1) (fun u hu => hl u (List.mem_cons_of_mem _ hu)) ⟨by show 0 ≤ x.c + t.f2; omega, by show x.c + t.f2 ≤ _; omega, by show 0 ≤ x.s + t.f1; omega, by show x.s + t.f1 ≤ _; omega⟩
    rw [List.foldl_cons, List.length_cons, show n + (l.length + 1) = n + 1 + l.length by omega]
    exact this
theorem goneTo_len (ls : List (List S44)) (ins : List S63) : ∀ i, i ≤ ls.length → (goneTo ls ins i).length ≤ ((ls.take i).flatten).length
  | 0, _ => by simp [goneTo]
  | i + 1, h => by
    have ih := goneTo_len ls ins i (by omega)
    have hi : i < ls.length := by omega
    rw [List.take_succ_eq_append_getElem hi, List.flatten_append, List.length_append]
    have hg : ls.getD i [] = ls[i] := by simp [hi]
    show (goneTo ls ins i ++ goneL ins i (ls.getD i [])).length ≤ _
    rw [List.length_append, hg]
    have := List.length_filter_le (goneB ins i) ls[i]
    simp only [List.flatten_cons, List.flatten_nil, List.append_nil]
    unfold goneL
    omega
theorem goneTo_mem (ls : List (List S44)) (ins : List S63) : ∀ i, ∀ t ∈ goneTo ls ins i, ∃ l ∈ ls, t ∈ l
  | 0, t, h => by simp [goneTo] at h
  | i + 1, t, h => by
    rcases List.mem_append.1 h with h | h
    · exact goneTo_mem ls ins i t h
    · have h := (List.mem_filter.1 h).1
      by_cases hi : i < ls.length
      · have hg : ls.getD i [] = ls[i] := by simp [hi]
        rw [hg] at h
        exact ⟨_, List.getElem_mem hi, h⟩
      · have hg : ls.getD i [] = [] := by simp [Nat.le_of_not_lt hi]
        rw [hg] at h
        cases h
theorem accA_bd (ls : List (List S44)) (ins : List S63) (hb : ∀ l ∈ ls, ∀ t ∈ l, 1 ≤ t.f1 ∧ t.f1 ≤ 1048576 ∧ 1 ≤ t.f2 ∧ t.f2 ≤ 65536) (hfl : ls.flatten.length ≤ 1024) (i j : Nat) (hi : i ≤ ls.length) :
    0 ≤ (accA ls ins i j).c ∧ (accA ls ins i j).c ≤ 134217728 ∧ 0 ≤ (accA ls ins i j).s ∧ (accA ls ins i j).s ≤ 2147483648 := by
  have hlen : (goneTo ls ins i ++ goneL ins i ((ls.getD i []).take j)).length ≤ 2048 := by
    rw [List.length_append]
    have h1 := goneTo_len ls ins i hi
    have h2 : ((ls.take i).flatten).length ≤ ls.flatten.length := by
      have := congrArg List.length (congrArg List.flatten (List.take_append_drop i ls))
      rw [List.flatten_append, List.length_append] at this
      omega
    have h3 : (goneL ins i ((ls.getD i []).take j)).length ≤ (ls.getD i []).length := Nat.le_trans (List.length_filter_le _ _) (by rw [List.length_take]; omega)
    have h4 : (ls.getD i []).length ≤ ls.flatten.length := by
      by_cases hlt : i < ls.length
      · have hg : ls.getD i [] = ls[i] := by simp [hlt]
        rw [hg]
        have := congrArg List.length (congrArg List.flatten (List.take_append_drop i ls))
        rw [List.drop_eq_getElem_cons hlt, List.flatten_append, List.flatten_cons, List.length_append, List.length_append] at this
        omega
      · have hg : ls.getD i [] = [] := by simp [Nat.le_of_not_lt hlt]
        rw [hg]; simp
    omega
  have := acc_bd (goneTo ls ins i ++ goneL ins i ((ls.getD i []).take j)) accZ 0 (fun t ht => by
    rcases List.mem_append.1 ht with h | h
    · obtain ⟨l, h1, h2⟩ := goneTo_mem ls ins i t h
      exact hb l h1 t h2
    · have h := List.mem_of_mem_take (List.mem_filter.1 h).1
      by_cases hlt : i < ls.length
      · have hg : ls.getD i [] = ls[i] := by simp [hlt]
        rw [hg] at h
        exact hb _ (List.getElem_mem hlt) t h
      · have hg : ls.getD i [] = [] := by simp [Nat.le_of_not_lt hlt]
        rw [hg] at h
        cases h) ⟨by decide, by decide, by decide, by decide⟩
  unfold accA
  omega
/-! ### Memory -/
/-- The seven rows that are made, under tags: a row's block is tagged with its level. -/
structure OutM (base R q : Nat) (W : World) (L : Nat → List S44) (vs : Nat → Value) (f : Nat → Nat) : Prop where
  out : W.heap[q]? = some (.cells #[.slice (some ⟨R, 0, none⟩) 7 7] 24 (0, 0))
  row : W.heap[R]? = some (.cells ((List.range 7).map vs).toArray 42 (0, 0))
  each : ∀ k, k < 7 → Kd.R k44 44 W base (fun b => f b = k) (vs k) (L k)
section
variable {base R q : Nat} {W W1 : World} {L : Nat → List S44} {vs : Nat → Value} {f : Nat → Nat}
theorem OutM.below (h : OutM base R q W L vs f) (hb : Below W.heap.size W W1) : OutM base R q W1 L vs f :=
  ⟨blk_below h.out hb, blk_below h.row hb, fun k hk => Kd.R_below (h.each k hk) hb⟩
theorem OutM.cellR (h : OutM base R q W L vs f) {k : Nat} (hk : k < 7) : W.cell? ⟨R, k, none⟩ = some (vs k) := by
  rw [blk_cell h.row]
  simp [hk]
theorem OutM.cellq (h : OutM base R q W L vs f) : W.cell? ⟨q, 0, none⟩ = some (.slice (some ⟨R, 0, none⟩) 7 7) := (blkc h.out 0 rfl).1
theorem OutM.val (h : OutM base R q W L vs f) {k : Nat} (hk : k < 7) : ∃ A c, vs k = .slice A (L k).length c ∧ (L k).length ≤ c ∧ Kd.C k44 W A (L k).length (L k) := by
  obtain ⟨A, c, e⟩ := Kd.R_slice (h.each k hk)
  have hr := h.each k hk
  rw [e] at hr
  exact ⟨A, c, e, (Kd.R_reads' hr).2.1, (Kd.R_reads' hr).2.2⟩
theorem range_set (vs : Nat → Value) (i : Nat) (v : Value) : ((List.range 7).map vs).toArray.setIfInBounds i v = ((List.range 7).map fun k => if k = i then v else vs k).toArray := by
  apply Array.ext
  · simp
  · intro k h1 h2
    have hk : k < 7 := by simpa using h2
    rw [Array.getElem_setIfInBounds (by simpa using hk)]
    by_cases hki : i = k
    · subst hki; simp
    · rw [if_neg hki]
      simp [Ne.symm hki]
/-- What an append to row i may tag. -/
def tagN (W : World) (f : Nat → Nat) (i : Nat) : Nat → Nat := fun b => if b < W.heap.size then f b else i
theorem OutM.here (h : OutM base R q W L vs f) {i : Nat} (hi : i < 7) : Kd.R k44 44 W base (fun b => tagN W f i b = i) (vs i) (L i) :=
  Kd.R_mono (Kd.R_bound (h.each i hi)) (fun k hk => by unfold tagN; rw [if_pos hk.2.2.1]; exact hk.1)
theorem tagN_new (W : World) (f : Nat → Nat) (i : Nat) : ∀ k, W.heap.size ≤ k → tagN W f i k = i := fun k hk => by unfold tagN; rw [if_neg (by omega)]
theorem OutM.ne (h : OutM base R q W L vs f) {i : Nat} (hi : i < 7) {g t : Nat} {cs : Array Value} (hg : W.heap[g]? = some (.cells cs t (0, 0))) (ht : t ≠ 44) : (vs i).ownBlock ≠ some g := by
  intro e
  obtain ⟨cells, hc⟩ := Kd.R_typed (h.each i hi) g e
  rw [hg] at hc
  have := Option.some.inj hc
  injection this with _ h2
  exact ht h2
theorem OutM.put (h : OutM base R q W L vs f) {i : Nat} (hi : i < 7) {v1 : Value} {l1 : List S44} (hR : Kd.R k44 44 W1 base (fun b => tagN W f i b = i) v1 l1) (hg : W.grownBy W1 (vs i).ownBlock) :
    OutM base R q (W1.setCell ⟨R, i, none⟩ v1) (fun k => if k = i then l1 else L k) (fun k => if k = i then v1 else vs k) (tagN W f i) := by
  have hq : W1.heap[q]? = some (.cells #[.slice (some ⟨R, 0, none⟩) 7 7] 24 (0, 0)) := (hg.block q (blk_lt h.out) (Ne.symm (h.ne hi h.out (by decide)))).trans h.out
  have hr : W1.heap[R]? = some (.cells ((List.range 7).map vs).toArray 42 (0, 0)) := (hg.block R (blk_lt h.row) (Ne.symm (h.ne hi h.row (by decide)))).trans h.row
  have hne : q ≠ R := by
    rintro rfl
    rw [hq] at hr
    have := Option.some.inj hr
    injection this with _ h2
    exact absurd h2 (by decide)
  have hT : ∀ p, p ∈ 44 :: k44.E → p ≠ 42 := by decide
  refine ⟨blk_far hq (p := ⟨R, i, none⟩) hne v1, ?_, fun k hk => ?_⟩
  · rw [← range_set]
    exact blk_set hr i v1
  · by_cases hki : k = i
    · subst hki
      rw [if_pos rfl, if_pos rfl]
      exact Kd.R_set hR hr hT _ _
    · rw [if_neg hki, if_neg hki]
      have h1 := Kd.R_bound (h.each k hk)
      have h2 : Kd.R k44 44 W1 base (fun b => tagN W f i b = k) (vs k) (L k) := by
        refine Kd.R_mono (Kd.R_step h1 (fun b hb hlt => hg.block b hlt (fun e => ?_))) (fun b hb => by unfold tagN; rw [if_pos hb.2.2.1]; exact hb.1)
        have := (h.each i hi).1 b e.symm
        exact hki (by rw [← hb.1, this])
      exact Kd.R_set h2 hr hT _ _
end
end Go.Proofs.Ytdibolblgchpdaa.P
