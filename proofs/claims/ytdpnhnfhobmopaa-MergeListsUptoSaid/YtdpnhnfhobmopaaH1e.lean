/- Plain mathematics: what merge.Merge computes; its contract. -/
import Derived.Test.YtdpnhnfhobmopaaH1
namespace Go.Proofs.Ytdpnhnfhobmopaa.P
open Go.RowKit Go.Proofs.YtdpnhnfhobmopaaW.PrintWords Go.Proofs.YtdpnhnfhobmopaaW.PrintLast Go.Proofs.YtdpnhnfhobmopaaW.PrintMore
set_option linter.unusedVariables false
set_option linter.unusedSimpArgs false

def Strict (l : List S24) : Prop := l.Pairwise (fun a b => cmpOf a b < 0)
theorem cmp_lt_trans {a b c : S24} (h1 : cmpOf a b < 0) (h2 : cmpOf b c ≤ 0) : cmpOf a c < 0 := by
  have h3 := cmp_trans (Int.le_of_lt h1) h2
  rcases Int.lt_or_eq_of_le h3 with h | h
  · exact h
  · exfalso
    have s1 := cmp_swap a c
    have h4 : cmpOf c a ≤ 0 := by omega
    have h5 := cmp_trans h2 h4
    have s2 := cmp_swap a b
    omega
theorem cmp_lt_trans' {a b c : S24} (h1 : cmpOf a b ≤ 0) (h2 : cmpOf b c < 0) : cmpOf a c < 0 := by
  have h3 := cmp_trans h1 (Int.le_of_lt h2)
  rcases Int.lt_or_eq_of_le h3 with h | h
  · exact h
  · exfalso
    have s1 := cmp_swap a c
    have h4 : cmpOf c a ≤ 0 := by omega
    have h5 := cmp_trans h4 h1
    have s2 := cmp_swap b c
    omega
/-- The first of those that compare equal. -/
def First (ls : List (List S24)) (i : Nat) (x : S24) : Prop := ∀ j, j < i → ∀ y ∈ ls.getD j [], cmpOf y x ≠ 0
def IsMerge (ls : List (List S24)) (r : List S24) : Prop := Strict r ∧ ∀ x, x ∈ r ↔ ∃ i, i < ls.length ∧ x ∈ ls.getD i [] ∧ First ls i x
theorem strict_ext : ∀ {a b : List S24}, Strict a → Strict b → (∀ x, x ∈ a ↔ x ∈ b) → a = b
  | [], [], _, _, _ => rfl
  | [], y :: b, _, _, h => absurd ((h y).2 (by simp)) (by simp)
  | x :: a, [], _, _, h => absurd ((h x).1 (by simp)) (by simp)
  | x :: a, y :: b, ha, hb, h => by
    unfold Strict at ha hb
    rw [List.pairwise_cons] at ha hb
    have hxy : x = y := by
      have h1 := (h x).1 (by simp)
      have h2 := (h y).2 (by simp)
      rcases List.mem_cons.1 h1 with h1 | h1
      · exact h1
      · rcases List.mem_cons.1 h2 with h2 | h2
        · exact h2.symm
        · have e1 := ha.1 y h2
          have e2 := hb.1 x h1
          have s := cmp_swap x y
          omega
    subst hxy
    have hn : ∀ {l : List S24}, (∀ z ∈ l, cmpOf x z < 0) → x ∉ l := fun hl hm => by have := hl x hm; rw [cmp_self] at this; omega
    rw [strict_ext (a := a) (b := b) ha.2 hb.2 (fun z => by
      constructor
      · intro hz
        rcases List.mem_cons.1 ((h z).1 (List.mem_cons_of_mem _ hz)) with rfl | h3
        · exact absurd hz (hn ha.1)
        · exact h3
      · intro hz
        rcases List.mem_cons.1 ((h z).2 (List.mem_cons_of_mem _ hz)) with rfl | h3
        · exact absurd hz (hn hb.1)
        · exact h3)]
theorem IsMerge.unique {ls : List (List S24)} {a b : List S24} (ha : IsMerge ls a) (hb : IsMerge ls b) : a = b :=
  strict_ext ha.1 hb.1 (fun x => (ha.2 x).trans (hb.2 x).symm)
def tot (hs : List Hd) : Nat := (hs.map fun h => h.l.length).sum
theorem tot_perm {a b : List Hd} (h : a.Perm b) : tot a = tot b := by unfold tot; exact (h.map _).sum_nat
/-- The state of the merging loop. -/
structure MI (ls : List (List S24)) (k : Nat) (hs : List Hd) (out : List S24) : Prop where
  len3 : hs.length ≤ 3
  pos : ∀ h ∈ hs, 0 < h.l.length
  min : MinRoot hs
  cnt : tot hs = k
  nodup : (hs.map (·.k)).Nodup
  room : out.length + tot hs < 2932031007402
  srt : Strict out
  split : ∃ P R : Nat → List S24, (∀ i, ls.getD i [] = P i ++ R i) ∧ (∀ h ∈ hs, ∃ i : Nat, i < ls.length ∧ h.k = i ∧ h.l = R i) ∧ (∀ i, i < ls.length → R i ≠ [] → ∃ h ∈ hs, h.k = (i : Int)) ∧
    (∀ x ∈ out, ∃ i, i < ls.length ∧ x ∈ P i ∧ First ls i x) ∧ (∀ i, i < ls.length → ∀ x ∈ P i, First ls i x → x ∈ out) ∧ (∀ i, i < ls.length → ∀ x ∈ P i, ∃ z ∈ out, cmpOf z x = 0) ∧
    (∀ z ∈ out, ∀ i, i < ls.length → ∀ y ∈ R i, cmpOf z y ≤ 0)
theorem strict_le {x : S24} {l : List S24} (h : Strict (x :: l)) : ∀ y ∈ x :: l, cmpOf x y ≤ 0 := by
  intro y hy
  rcases List.mem_cons.1 hy with rfl | hy
  · rw [cmp_self]; omega
  · exact Int.le_of_lt ((List.pairwise_cons.1 h).1 y hy)
theorem strict_app {a b : List S24} (h : Strict (a ++ b)) : Strict a ∧ Strict b ∧ ∀ x ∈ a, ∀ y ∈ b, cmpOf x y < 0 := List.pairwise_append.1 h
theorem rd_cons (x : S24) (l : List S24) : rd_T24 (x :: l) 0 = x := rfl
theorem rd_last (out : List S24) (z : S24) : rd_T24 (out ++ [z]) (((out ++ [z]).length : Int) - 1) = z := by
  have e : (((out ++ [z]).length : Int) - 1).toNat = out.length := by simp
  simp only [rd_T24, e, List.getD_eq_getElem?_getD]
  simp
/-- What is put out next: nothing, or a cell behind all others. -/
theorem outNext_cases (out : List S24) (c : S24) (hs : Strict out) (hle : ∀ z ∈ out, cmpOf z c ≤ 0) :
    (outNext out c = out ∧ ∃ z ∈ out, cmpOf z c = 0) ∨ (outNext out c = out ++ [c] ∧ ∀ z ∈ out, cmpOf z c < 0) := by
  unfold outNext
  by_cases h0 : out.length = 0
  · rw [if_pos h0]
    right
    obtain rfl := List.eq_nil_of_length_eq_zero h0
    exact ⟨rfl, by simp⟩
  · rw [if_neg h0]
    obtain ⟨o, z, rfl⟩ : ∃ o z, out = o ++ [z] := by
      refine ⟨out.dropLast, out.getLast (fun e => h0 (by rw [e]; rfl)), (List.dropLast_concat_getLast _).symm⟩
    rw [rd_last]
    have hz := hle z (by simp)
    by_cases h1 : cmpOf z c = 0
    · rw [if_pos h1]
      exact .inl ⟨rfl, z, by simp, h1⟩
    · rw [if_neg h1]
      refine .inr ⟨rfl, ?_⟩
      intro y hy
      rcases List.mem_append.1 hy with hy | hy
      · exact cmp_lt_trans ((strict_app hs).2.2 y hy z (by simp)) hz
      · obtain rfl := List.mem_singleton.1 hy
        omega
theorem outNext_length (out : List S24) (c : S24) : (outNext out c).length ≤ out.length + 1 := by
  unfold outNext
  split
  · simp
  · split
    · omega
    · simp
theorem mi_step {ls : List (List S24)} {k : Nat} {h0 : Hd} {rest : List Hd} {out : List S24} (hall : ∀ i, i < ls.length → Strict (ls.getD i [])) (h : MI ls (k + 1) (h0 :: rest) out) (hs' : List Hd)
    (len3 : hs'.length ≤ 3) (pos : ∀ h ∈ hs', 0 < h.l.length) (min : MinRoot hs') (cnt : tot hs' = k) (nodup : (hs'.map (·.k)).Nodup)
    (mem1 : ∀ h ∈ hs', h ∈ rest ∨ (h.k = h0.k ∧ h.l = h0.l.drop 1)) (mem2 : ∀ h ∈ rest, h ∈ hs') (mem3 : h0.l.drop 1 ≠ [] → ∃ h ∈ hs', h.k = h0.k) :
    MI ls k hs' (outNext out (rd_T24 h0.l 0)) := by
  obtain ⟨P, R, hsp, hin, hex, ha, hb, hc, hd⟩ := h.split
  obtain ⟨i0, hi0, hk0, hl0⟩ := hin h0 (by simp)
  have hp0 := h.pos h0 (by simp)
  obtain ⟨c, t, hct⟩ : ∃ c t, h0.l = c :: t := by
    cases hl : h0.l with
    | nil => rw [hl] at hp0; simp at hp0
    | cons c t => exact ⟨c, t, rfl⟩
  have hR0 : R i0 = c :: t := by rw [← hl0, hct]
  have hdrop : h0.l.drop 1 = t := by rw [hct]; rfl
  rw [hct, rd_cons]
  rw [hdrop] at mem1 mem3
  have hst0 : Strict (P i0 ++ (c :: t)) := by rw [← hR0, ← hsp]; exact hall i0 hi0
  have hct' : Strict (c :: t) := (strict_app hst0).2.1
  have hcR : c ∈ R i0 := by rw [hR0]; simp
  have hle : ∀ z ∈ out, cmpOf z c ≤ 0 := fun z hz => hd z hz i0 hi0 c hcR
  have hcase := outNext_cases out c h.srt hle
  have hsub : ∀ z ∈ out, z ∈ outNext out c := by
    intro z hz
    rcases hcase with ⟨e, _⟩ | ⟨e, _⟩ <;> rw [e]
    · exact hz
    · exact List.mem_append_left _ hz
  -- every other head's cells stand behind c
  have hother : ∀ j, j < ls.length → j ≠ i0 → ∀ y ∈ R j, cmpOf c y ≤ 0 ∧ (j < i0 → cmpOf c y < 0) := by
    intro j hj hne y hy
    have hRj : R j ≠ [] := fun e => by rw [e] at hy; cases hy
    obtain ⟨g, hg, hgk⟩ := hex j hj hRj
    obtain ⟨j', hj', hgk', hgl⟩ := hin g hg
    obtain rfl : j' = j := by omega
    obtain ⟨f, u, hfu⟩ : ∃ f u, R j' = f :: u := by
      cases hl : R j' with
      | nil => exact absurd hl hRj
      | cons f u => exact ⟨f, u, rfl⟩
    have hm := h.min g hg
    have e0 : ((h0 :: rest).getD 0 zHd) = h0 := rfl
    rw [e0, lessH_false, hgl, hfu, hct, rd_cons, rd_cons] at hm
    have hstj : Strict (P j' ++ R j') := by rw [← hsp]; exact hall j' hj
    rw [hfu] at hstj hy
    have hfy := strict_le (strict_app hstj).2.1 y hy
    have s1 := cmp_swap c f
    refine ⟨cmp_trans (by omega) hfy, fun hlt => ?_⟩
    have hcf : cmpOf c f < 0 := by
      rcases hm with hm | ⟨_, hm⟩
      · omega
      · omega
    exact cmp_lt_trans hcf hfy
  -- if c is put out, it is the first of its like
  have hfirst : (∀ z ∈ out, cmpOf z c < 0) → First ls i0 c := by
    intro hlt j hj y hy hyc
    have hjl : j < ls.length := by omega
    rw [hsp] at hy
    rcases List.mem_append.1 hy with hy | hy
    · obtain ⟨z, hz, hzy⟩ := hc j hjl y hy
      have h1 := hlt z hz
      have h2 := cmp_trans (show cmpOf c y ≤ 0 by have := cmp_swap y c; omega) (show cmpOf y z ≤ 0 by have := cmp_swap z y; omega)
      have s := cmp_swap z c
      omega
    · have h1 := (hother j hjl (by omega) y hy).2 hj
      have s := cmp_swap c y
      omega
  -- if it is not, it is not
  have hnot : ∀ z ∈ out, cmpOf z c = 0 → ¬ First ls i0 c := by
    intro z hz hzc hf
    obtain ⟨i, hi, hzP, hzf⟩ := ha z hz
    have hzl : z ∈ ls.getD i [] := by rw [hsp]; exact List.mem_append_left _ hzP
    rcases Nat.lt_trichotomy i i0 with hlt | rfl | hgt
    · exact hf i hlt z hzl hzc
    · have := (strict_app hst0).2.2 z hzP c (by simp)
      omega
    · have hcl : c ∈ ls.getD i0 [] := by rw [hsp]; exact List.mem_append_right _ hcR
      exact hzf i0 hgt c hcl (by have := cmp_swap z c; omega)
  refine ⟨len3, pos, min, cnt, nodup, ?_, ?_, fun i => if i = i0 then P i0 ++ [c] else P i, fun i => if i = i0 then t else R i, ?_, ?_, ?_, ?_, ?_, ?_, ?_⟩
  · have h1 := h.room
    have h2 := h.cnt
    have h3 := outNext_length out c
    omega
  · rcases hcase with ⟨e, _⟩ | ⟨e, hlt⟩ <;> rw [e]
    · exact h.srt
    · exact List.pairwise_append.2 ⟨h.srt, List.pairwise_singleton _ _, fun z hz y hy => by obtain rfl := List.mem_singleton.1 hy; exact hlt z hz⟩
  · intro i
    by_cases hi : i = i0
    · subst hi
      simp only [if_true]
      rw [hsp, hR0, List.append_assoc]
      rfl
    · simp only [if_neg hi]
      exact hsp i
  · intro g hg
    rcases mem1 g hg with hg | ⟨hgk, hgl⟩
    · obtain ⟨i, hi, hk, hl⟩ := hin g (List.mem_cons_of_mem _ hg)
      refine ⟨i, hi, hk, ?_⟩
      have hne : i ≠ i0 := by
        intro e
        subst e
        have hn := h.nodup
        rw [List.map_cons, List.nodup_cons] at hn
        exact hn.1 (by rw [hk0, ← hk]; exact List.mem_map_of_mem hg)
      simp only [if_neg hne]
      exact hl
    · exact ⟨i0, hi0, by rw [hgk, hk0], by simp only [if_true]; exact hgl⟩
  · intro i hi hne
    by_cases e : i = i0
    · subst e
      simp only [if_true] at hne
      obtain ⟨g, hg, hgk⟩ := mem3 hne
      exact ⟨g, hg, by rw [hgk, hk0]⟩
    · simp only [if_neg e] at hne
      obtain ⟨g, hg, hgk⟩ := hex i hi hne
      rcases List.mem_cons.1 hg with rfl | hg
      · exact absurd (by omega) e
      · exact ⟨g, mem2 g hg, hgk⟩
  · intro x hx
    have hold : x ∈ out → ∃ i, i < ls.length ∧ x ∈ (if i = i0 then P i0 ++ [c] else P i) ∧ First ls i x := by
      intro hx
      obtain ⟨i, hi, hxP, hxf⟩ := ha x hx
      refine ⟨i, hi, ?_, hxf⟩
      by_cases e : i = i0
      · subst e; simp only [if_true]; exact List.mem_append_left _ hxP
      · simp only [if_neg e]; exact hxP
    rcases hcase with ⟨e, _⟩ | ⟨e, hlt⟩ <;> rw [e] at hx
    · exact hold hx
    · rcases List.mem_append.1 hx with hx | hx
      · exact hold hx
      · obtain rfl := List.mem_singleton.1 hx
        exact ⟨i0, hi0, by simp, hfirst hlt⟩
  · intro i hi x hx hf
    have hold : x ∈ P i → x ∈ outNext out c := fun hx => hsub x (hb i hi x hx hf)
    by_cases e : i = i0
    · subst e
      simp only [if_true] at hx
      rcases List.mem_append.1 hx with hx | hx
      · exact hold hx
      · obtain rfl := List.mem_singleton.1 hx
        rcases hcase with ⟨_, z, hz, hzc⟩ | ⟨e, _⟩
        · exact absurd hf (hnot z hz hzc)
        · rw [e]; simp
    · simp only [if_neg e] at hx
      exact hold hx
  · intro i hi x hx
    have hold : x ∈ P i → ∃ z ∈ outNext out c, cmpOf z x = 0 := fun hx => by
      obtain ⟨z, hz, hzx⟩ := hc i hi x hx
      exact ⟨z, hsub z hz, hzx⟩
    by_cases e : i = i0
    · subst e
      simp only [if_true] at hx
      rcases List.mem_append.1 hx with hx | hx
      · exact hold hx
      · obtain rfl := List.mem_singleton.1 hx
        rcases hcase with ⟨e, z, hz, hzc⟩ | ⟨e, _⟩
        · exact ⟨z, hsub z hz, hzc⟩
        · exact ⟨x, by rw [e]; simp, cmp_self x⟩
    · simp only [if_neg e] at hx
      exact hold hx
  · intro z hz i hi y hy
    have hyR : y ∈ R i := by
      by_cases e : i = i0
      · subst e; simp only [if_true] at hy; rw [hR0]; exact List.mem_cons_of_mem _ hy
      · simp only [if_neg e] at hy; exact hy
    have hold : z ∈ out → cmpOf z y ≤ 0 := fun hz => hd z hz i hi y hyR
    rcases hcase with ⟨e, _⟩ | ⟨e, hlt⟩ <;> rw [e] at hz
    · exact hold hz
    · rcases List.mem_append.1 hz with hz | hz
      · exact hold hz
      · obtain rfl := List.mem_singleton.1 hz
        by_cases e : i = i0
        · subst e
          simp only [if_true] at hy
          exact strict_le hct' y (List.mem_cons_of_mem _ hy)
        · exact (hother i hi e y hyR).1
end Go.Proofs.Ytdpnhnfhobmopaa.P
