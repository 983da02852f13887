/- A list that was thinned out, merged with another one, shows the same. -/
import Derived.Test.YtdpnhnfhobmopaaQ5
namespace Go.Proofs.Ytdpnhnfhobmopaa.P
open Go.RowKit Go.Proofs.YtdpnhnfhobmopaaW.PrintWords Go.Proofs.YtdpnhnfhobmopaaW.PrintLast Go.Proofs.YtdpnhnfhobmopaaW.PrintMore
set_option linter.unusedVariables false
set_option linter.unusedSimpArgs false

theorem dropR_mem (o : Int) (b : Bool) (x : S24) : ∀ (l pre : List S24), x ∈ dropR o b pre l ↔ ∃ a c, l = a ++ x :: c ∧ (x.f1 > o ∨ (x.f1 ≤ o ∧ blocks o (pre ++ a) x = false ∧ (b && x.f3) = false))
  | [], pre => by
    constructor
    · intro h; cases h
    · rintro ⟨a, c, h, _⟩; simp at h
  | y :: l, pre => by
    rw [dropR_cons, List.mem_append, dropR_mem o b x l (pre ++ [y])]
    constructor
    · rintro (h | ⟨a, c, rfl, h⟩)
      · split at h
        · rename_i hc
          obtain rfl := List.mem_singleton.1 h
          simp only [Bool.or_eq_true, Bool.and_eq_true, decide_eq_true_eq, Bool.not_eq_true'] at hc
          refine ⟨[], l, rfl, ?_⟩
          rw [List.append_nil]
          rcases hc with hc | hc
          · exact .inl hc
          · exact .inr ⟨hc.1.1, hc.1.2, hc.2⟩
        · cases h
      · exact ⟨y :: a, c, rfl, by rw [List.append_assoc, List.singleton_append] at h; exact h⟩
    · rintro ⟨a, c, h, hc⟩
      cases a with
      | nil =>
        obtain ⟨rfl, rfl⟩ := List.cons.inj (by simpa using h)
        left
        rw [List.append_nil] at hc
        rw [if_pos]
        · simp
        · simp only [Bool.or_eq_true, Bool.and_eq_true, decide_eq_true_eq, Bool.not_eq_true']
          rcases hc with hc | ⟨h1, h2, h3⟩
          · exact .inl hc
          · exact .inr ⟨⟨h1, h2⟩, h3⟩
      | cons z a =>
        obtain ⟨rfl, rfl⟩ := List.cons.inj (by simpa using h)
        exact .inr ⟨a, c, rfl, by rw [List.append_assoc, List.singleton_append]; exact hc⟩
/-- What stays in a list in order: what is newer than the oldest moment, and of each key the newest one up to it. -/
theorem thin_mem (o : Int) (l : List S24) (hs : Strict l) (x : S24) : x ∈ outAll (dropG o false) l ↔ x ∈ l ∧ (x.f1 > o ∨ ∀ y ∈ l, keyOf y = keyOf x → y.f1 ≤ o → y.f1 ≤ x.f1) := by
  rw [drop_eq o false l hs, dropR_mem]
  constructor
  · rintro ⟨a, c, rfl, h⟩
    refine ⟨by simp, ?_⟩
    rcases h with h | ⟨h1, h2, _⟩
    · exact .inl h
    · right
      rw [List.nil_append] at h2
      intro y hy hk hq
      obtain ⟨_, hb, _⟩ := strict_app hs
      rcases List.mem_append.1 hy with hy | hy
      · unfold blocks at h2
        rw [List.any_eq_false] at h2
        have := h2 y hy
        simp [show y.f0.toList = x.f0.toList from hk] at this
        omega
      · rcases List.mem_cons.1 hy with rfl | hy
        · exact Int.le_refl _
        · have := seq_lt ((List.pairwise_cons.1 hb).1 y hy) hk.symm
          omega
  · rintro ⟨hx, h⟩
    obtain ⟨a, c, rfl⟩ := List.append_of_mem hx
    refine ⟨a, c, rfl, ?_⟩
    by_cases h1 : x.f1 > o
    · exact .inl h1
    · refine .inr ⟨by omega, ?_, rfl⟩
      rw [List.nil_append]
      unfold blocks
      rw [List.any_eq_false]
      intro y hy
      simp only [Bool.and_eq_true, decide_eq_true_eq, not_and]
      intro hk hq
      rcases h with h | h
      · exact h1 h
      · have h5 := h y (by simp [hy]) hk hq
        have h6 := seq_lt ((strict_app hs).2.2 y hy x (by simp)) hk
        omega
/-- Whose cells compare equal: one key, one number. -/
theorem zero_iff (a b : S24) : cmpOf a b = 0 ↔ keyOf a = keyOf b ∧ a.f1 = b.f1 := by
  have h1 := cmp_lt_iff a b
  have h2 := cmp_lt_iff b a
  have h3 := cmp_swap a b
  have k1 := key_iff a b
  have c1 := cb_swap a.f0.data.toList b.f0.data.toList
  constructor
  · intro h
    have hk : keyOf a = keyOf b := by
      refine k1.2 ?_
      have n1 : ¬ Lib.compareBytes a.f0.data.toList b.f0.data.toList < 0 := fun hh => by have := h1.2 (.inl hh); omega
      have n2 : ¬ Lib.compareBytes b.f0.data.toList a.f0.data.toList < 0 := fun hh => by have := h2.2 (.inl hh); omega
      omega
    refine ⟨hk, ?_⟩
    have n1 : ¬ b.f1 < a.f1 := fun hh => by have := h1.2 (.inr ⟨hk, hh⟩); omega
    have n2 : ¬ a.f1 < b.f1 := fun hh => by have := h2.2 (.inr ⟨hk.symm, hh⟩); omega
    omega
  · rintro ⟨hk, hf⟩
    have e0 := k1.1 hk
    have n1 : ¬ cmpOf a b < 0 := fun hh => by
      rcases h1.1 hh with h | h
      · omega
      · omega
    have n2 : ¬ cmpOf b a < 0 := fun hh => by
      rcases h2.1 hh with h | h
      · omega
      · omega
    omega
theorem two_strict {x y : List S24} (hx : Strict x) (hy : Strict y) : ∀ l ∈ [x, y], Strict l := fun l hl => by
  rcases List.mem_cons.1 hl with rfl | hl
  · exact hx
  · rw [List.mem_singleton.1 hl]; exact hy
theorem merge2_mem {a b : List S24} (ha : Strict a) (hb : Strict b) (x : S24) : x ∈ mergeL [a, b] ↔ x ∈ a ∨ (x ∈ b ∧ ∀ y ∈ a, cmpOf y x ≠ 0) := by
  rw [mergeL_mem (two_strict ha hb)]
  have e : [a, b].flatten = a ++ b := by simp
  rw [e, firstIn_append, firstIn_strict ha, firstIn_strict hb]
  constructor
  · rintro (h | ⟨h1, h2⟩)
    · exact .inl h
    · exact .inr ⟨h2, h1⟩
  · rintro (h | ⟨h1, h2⟩)
    · exact .inl h
    · exact .inr ⟨h2, h1⟩
/-- The newest one of a list's cells of a key up to q. -/
theorem newest_ex (k : List UInt8) (q : Int) : ∀ (l : List S24), (∃ y ∈ l, keyOf y = k ∧ y.f1 ≤ q) → ∃ z ∈ l, keyOf z = k ∧ z.f1 ≤ q ∧ ∀ y ∈ l, keyOf y = k → y.f1 ≤ q → y.f1 ≤ z.f1
  | [], h => by obtain ⟨y, hy, _⟩ := h; cases hy
  | x :: l, h => by
    by_cases hl : ∃ y ∈ l, keyOf y = k ∧ y.f1 ≤ q
    · obtain ⟨z, hz, h1, h2, h3⟩ := newest_ex k q l hl
      by_cases hx : (keyOf x = k ∧ x.f1 ≤ q) ∧ z.f1 < x.f1
      · refine ⟨x, by simp, hx.1.1, hx.1.2, fun y hy hk hq => ?_⟩
        rcases List.mem_cons.1 hy with rfl | hy
        · exact Int.le_refl _
        · have := h3 y hy hk hq; omega
      · refine ⟨z, by simp [hz], h1, h2, fun y hy hk hq => ?_⟩
        rcases List.mem_cons.1 hy with rfl | hy
        · by_cases hc : z.f1 < y.f1
          · exact absurd ⟨⟨hk, hq⟩, hc⟩ hx
          · omega
        · exact h3 y hy hk hq
    · obtain ⟨y, hy, hk, hq⟩ := h
      rcases List.mem_cons.1 hy with rfl | hy
      · refine ⟨y, by simp, hk, hq, fun z hz hzk hzq => ?_⟩
        rcases List.mem_cons.1 hz with rfl | hz
        · exact Int.le_refl _
        · exact absurd ⟨z, hz, hzk, hzq⟩ hl
      · exact absurd ⟨y, hy, hk, hq⟩ hl
/-- A thinned list holds, of each key that has a cell up to q, the newest one. -/
theorem thin_has (o q : Int) (hq : o ≤ q) (l : List S24) (hs : Strict l) (y : S24) (hy : y ∈ l) (hyq : y.f1 ≤ q) : ∃ z ∈ outAll (dropG o false) l, keyOf z = keyOf y ∧ z.f1 ≤ q ∧ y.f1 ≤ z.f1 := by
  obtain ⟨z, hz, h1, h2, h3⟩ := newest_ex (keyOf y) q l ⟨y, hy, rfl, hyq⟩
  refine ⟨z, (thin_mem o l hs z).2 ⟨hz, ?_⟩, h1, h2, h3 y hy rfl hyq⟩
  exact .inr (fun u hu hk huo => h3 u hu (hk.trans h1) (by omega))
theorem thins_eq (o q : Int) (hq : o ≤ q) (a b : List S24) (ha : Strict a) (hb : Strict b) : visR q [] (mergeL [outAll (dropG o false) a, b]) = visR q [] (mergeL [a, b]) := by
  obtain ⟨t1, t2, _, _⟩ := drop_facts o false a ha
  have hthin := fun x => thin_mem o a ha x
  have hhas := fun y => thin_has o q hq a ha y
  generalize outAll (dropG o false) a = t at t1 t2 hthin hhas
  have s1 := mergeL_strict (two_strict t2 hb)
  have s2 := mergeL_strict (two_strict ha hb)
  refine strict_ext (s1.sublist (visR_sub q _ _)) (s2.sublist (visR_sub q _ _)) (fun x => ?_)
  rw [vis_mem q _ s1, vis_mem q _ s2]
  have m1 := merge2_mem t2 hb
  have m2 := merge2_mem ha hb
  -- every cell of either list has one in the merged list of the same key and number
  have cov2 : ∀ y, y ∈ a ∨ y ∈ b → ∃ z ∈ mergeL [a, b], keyOf z = keyOf y ∧ z.f1 = y.f1 := by
    intro y hy
    rcases hy with hy | hy
    · exact ⟨y, (m2 y).2 (.inl hy), rfl, rfl⟩
    · by_cases hc : ∃ z ∈ a, cmpOf z y = 0
      · obtain ⟨z, hz, he⟩ := hc
        exact ⟨z, (m2 z).2 (.inl hz), ((zero_iff z y).1 he).1, ((zero_iff z y).1 he).2⟩
      · exact ⟨y, (m2 y).2 (.inr ⟨hy, fun z hz he => hc ⟨z, hz, he⟩⟩), rfl, rfl⟩
  have cov1 : ∀ y, y ∈ t ∨ y ∈ b → ∃ z ∈ mergeL [t, b], keyOf z = keyOf y ∧ z.f1 = y.f1 := by
    intro y hy
    rcases hy with hy | hy
    · exact ⟨y, (m1 y).2 (.inl hy), rfl, rfl⟩
    · by_cases hc : ∃ z ∈ t, cmpOf z y = 0
      · obtain ⟨z, hz, he⟩ := hc
        exact ⟨z, (m1 z).2 (.inl hz), ((zero_iff z y).1 he).1, ((zero_iff z y).1 he).2⟩
      · exact ⟨y, (m1 y).2 (.inr ⟨hy, fun z hz he => hc ⟨z, hz, he⟩⟩), rfl, rfl⟩
  constructor
  · rintro ⟨hx, h1, h3, h4⟩
    -- newest in the thin one: newest of all
    have hmax : ∀ y, y ∈ a ∨ y ∈ b → keyOf y = keyOf x → y.f1 ≤ q → y.f1 ≤ x.f1 := by
      intro y hy hk hyq
      rcases hy with hy | hy
      · obtain ⟨z, hz, e1, e2, e3⟩ := hhas y hy hyq
        obtain ⟨u, hu, u1, u2⟩ := cov1 z (.inl hz)
        have := h4 u hu (u1.trans (e1.trans hk)) (by omega)
        omega
      · obtain ⟨u, hu, u1, u2⟩ := cov1 y (.inr hy)
        have := h4 u hu (u1.trans hk) (by omega)
        omega
    refine ⟨?_, h1, h3, fun y hy hk hyq => ?_⟩
    · rcases (m1 x).1 hx with hx | ⟨hx, hne⟩
      · exact (m2 x).2 (.inl (t1.subset hx))
      · refine (m2 x).2 (.inr ⟨hx, fun z hz he => ?_⟩)
        obtain ⟨ek, ef⟩ := (zero_iff z x).1 he
        obtain ⟨u, hu, u1, u2, u3⟩ := hhas z hz (by omega)
        have hux := hmax u (.inl (t1.subset hu)) (u1.trans ek) u2
        exact hne u hu ((zero_iff u x).2 ⟨u1.trans ek, by omega⟩)
    · rcases (m2 y).1 hy with hy | ⟨hy, _⟩
      · exact hmax y (.inl hy) hk hyq
      · exact hmax y (.inr hy) hk hyq
  · rintro ⟨hx, h1, h3, h4⟩
    have hmax : ∀ y, y ∈ a ∨ y ∈ b → keyOf y = keyOf x → y.f1 ≤ q → y.f1 ≤ x.f1 := by
      intro y hy hk hyq
      obtain ⟨u, hu, u1, u2⟩ := cov2 y hy
      have := h4 u hu (u1.trans hk) (by omega)
      omega
    refine ⟨?_, h1, h3, fun y hy hk hyq => ?_⟩
    · rcases (m2 x).1 hx with hx | ⟨hx, hne⟩
      · refine (m1 x).2 (.inl ?_)
        refine (hthin x).2 ⟨hx, .inr (fun y hy hk hyo => hmax y (.inl hy) hk (by omega))⟩
      · exact (m1 x).2 (.inr ⟨hx, fun z hz he => hne z (t1.subset hz) he⟩)
    · rcases (m1 y).1 hy with hy | ⟨hy, _⟩
      · exact hmax y (.inl (t1.subset hy)) hk hyq
      · exact hmax y (.inr hy) hk hyq
end Go.Proofs.Ytdpnhnfhobmopaa.P
