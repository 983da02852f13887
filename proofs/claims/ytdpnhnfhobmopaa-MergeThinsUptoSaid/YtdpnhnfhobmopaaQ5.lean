/- What is let go, and what is seen: in plain mathematics. -/
import Derived.Test.YtdpnhnfhobmopaaQ2
import Derived.Test.YtdpnhnfhobmopaaQ4
namespace Go.Proofs.Ytdpnhnfhobmopaa.P
open Go.RowKit Go.Proofs.YtdpnhnfhobmopaaW.PrintWords Go.Proofs.YtdpnhnfhobmopaaW.PrintLast Go.Proofs.YtdpnhnfhobmopaaW.PrintMore
set_option linter.unusedVariables false
set_option linter.unusedSimpArgs false

theorem dropG_sub (o : Int) (b : Bool) : ∀ g : List S24, (dropG o b g).Sublist g
  | [] => List.Sublist.slnil
  | x :: g => by
    rw [dropG_cons]
    split
    · split
      · exact List.nil_sublist _
      · exact List.Sublist.cons_cons x (List.nil_sublist g)
    · exact List.Sublist.cons_cons x (dropG_sub o b g)
theorem dropG_twice (o : Int) (b : Bool) : ∀ g : List S24, dropG o b (dropG o b g) = dropG o b g
  | [] => rfl
  | x :: g => by
    rw [dropG_cons]
    by_cases h : x.f1 ≤ o
    · rw [if_pos h]
      by_cases h2 : (b && x.f3) = true
      · rw [if_pos h2]; rfl
      · rw [if_neg h2, dropG_cons, if_pos h, if_neg h2]
    · rw [if_neg h, dropG_cons, if_neg h, dropG_twice o b g]
theorem visF_drop (o q : Int) (b : Bool) (hq : o ≤ q) : ∀ g : List S24, visF q (dropG o b g) = visF q g
  | [] => rfl
  | x :: g => by
    rw [dropG_cons, visF_cons]
    by_cases h : x.f1 ≤ o
    · rw [if_pos h, if_pos (show x.f1 ≤ q by omega)]
      by_cases h2 : (b && x.f3) = true
      · rw [if_pos h2]
        have : x.f3 = true := by revert h2; cases b <;> cases x.f3 <;> simp
        rw [this]
        rfl
      · rw [if_neg h2, visF_cons, if_pos (show x.f1 ≤ q by omega)]
    · rw [if_neg h, visF_cons, visF_drop o q b hq g]
/-- Cells by keys, no key twice. -/
def Apart (L : List (List S24)) : Prop := (∀ g ∈ L, OneKey g) ∧ L.Pairwise (fun g h => ∀ x ∈ g, ∀ y ∈ h, keyOf x ≠ keyOf y)
theorem apart_grps : ∀ (L : List (List S24)), Apart L → IsGrps L
  | [], _ => trivial
  | g :: L, h => by
    obtain ⟨h1, h2⟩ := h
    obtain ⟨h3, h4⟩ := List.pairwise_cons.1 h2
    refine ⟨h1 g (by simp), fun x hx hd hh y hy e => ?_, apart_grps L ⟨fun g' hg => h1 g' (by simp [hg]), h4⟩⟩
    cases L with
    | nil => simp at hh
    | cons g' L =>
      have : g' = hd := by simpa using hh
      subst this
      exact h3 g' (by simp) x hx y hy e.symm
theorem grps_pair : ∀ (L : List (List S24)), IsGrps L → Strict L.flatten → Apart L
  | [], _, _ => ⟨fun g hg => (by cases hg), List.Pairwise.nil⟩
  | g :: L, h, hs => by
    have ha := grps_apart (g :: L) h hs g L rfl
    obtain ⟨h1, _, h3⟩ := h
    rw [List.flatten_cons] at hs
    obtain ⟨i1, i2⟩ := grps_pair L h3 (strict_app hs).2.1
    refine ⟨fun g' hg => ?_, List.pairwise_cons.2 ⟨fun g' hg x hx y hy => ha x hx y (List.mem_flatten.2 ⟨g', hg, hy⟩), i2⟩⟩
    rcases List.mem_cons.1 hg with rfl | hg
    · exact h1
    · exact i1 g' hg
theorem one_sub {g h : List S24} (hs : h.Sublist g) (hg : OneKey g) (hn : h ≠ []) : OneKey h := by
  cases h with
  | nil => exact absurd rfl hn
  | cons x h => exact ⟨x, h, rfl, fun y hy => hg.key y (hs.subset (by simp [hy])) x (hs.subset (by simp))⟩
/-- What is taken out of each key's cells, the empty ones left out, is cells by keys again. -/
theorem thin_grps {f : List S24 → List S24} (hf : ∀ g, (f g).Sublist g) : ∀ (L : List (List S24)), Apart L → Apart ((L.map f).filter fun g => !g.isEmpty)
  | [], h => h
  | g :: L, h => by
    obtain ⟨h1, h2⟩ := h
    obtain ⟨h3, h4⟩ := List.pairwise_cons.1 h2
    obtain ⟨i1, i2⟩ := thin_grps hf L ⟨fun g' hg => h1 g' (by simp [hg]), h4⟩
    rw [List.map_cons]
    by_cases he : f g = []
    · rw [List.filter_cons_of_neg (by rw [he]; simp)]
      exact ⟨i1, i2⟩
    · rw [List.filter_cons_of_pos (by simpa using he)]
      refine ⟨fun g' hg => ?_, List.pairwise_cons.2 ⟨fun g' hg x hx y hy => ?_, i2⟩⟩
      · rcases List.mem_cons.1 hg with rfl | hg
        · exact one_sub (hf g) (h1 g (by simp)) he
        · exact i1 g' hg
      · have hg := (List.mem_filter.1 hg).1
        obtain ⟨g0, hg0, rfl⟩ := List.mem_map.1 hg
        exact h3 g0 hg0 x ((hf g).subset hx) y ((hf g0).subset hy)
theorem filter_flat {f : List S24 → List S24} (e : List S24 → List S24) (he : e [] = []) : ∀ (L : List (List S24)), ((L.map f).filter fun g => !g.isEmpty).flatMap e = L.flatMap (fun g => e (f g))
  | [] => rfl
  | g :: L => by
    rw [List.map_cons, List.flatMap_cons, ← filter_flat e he L]
    by_cases h : f g = []
    · rw [List.filter_cons_of_neg (by rw [h]; simp), h, he, List.nil_append]
    · rw [List.filter_cons_of_pos (by simpa using h), List.flatMap_cons]
theorem flat_sub {f : List S24 → List S24} (hf : ∀ g, (f g).Sublist g) : ∀ (L : List (List S24)), (L.flatMap f).Sublist L.flatten
  | [] => List.Sublist.slnil
  | g :: L => by
    rw [List.flatMap_cons, List.flatten_cons]
    exact (hf g).append (flat_sub hf L)
theorem flatMap_id : ∀ (L : List (List S24)), L.flatMap (fun g => g) = L.flatten
  | [] => rfl
  | g :: L => by rw [List.flatMap_cons, List.flatten_cons, flatMap_id L]
/-- What is left behind a compaction. -/
theorem drop_facts (o : Int) (b : Bool) (l : List S24) (hs : Strict l) : (outAll (dropG o b) l).Sublist l ∧ Strict (outAll (dropG o b) l) ∧ outAll (dropG o b) (outAll (dropG o b) l) = outAll (dropG o b) l ∧ ∀ q, o ≤ q → outAll (visG q) (outAll (dropG o b) l) = outAll (visG q) l := by
  obtain ⟨L, hL, rfl⟩ := exists_grps l.length l (Nat.le_refl _)
  have hA := grps_pair L hL hs
  have hT := apart_grps _ (thin_grps (dropG_sub o b) L hA)
  have hd0 : dropG o b [] = [] := by unfold dropG; rfl
  have hv0 : ∀ q, visG q [] = [] := fun q => by unfold visG; rfl
  have e1 : outAll (dropG o b) L.flatten = L.flatMap (dropG o b) := outAll_grps hd0 L hL
  have e2 : ((L.map (dropG o b)).filter fun g => !g.isEmpty).flatten = L.flatMap (dropG o b) := by
    rw [← flatMap_id, filter_flat (fun g => g) rfl L]
  have hsub := flat_sub (dropG_sub o b) L
  rw [e1]
  refine ⟨hsub, hs.sublist hsub, ?_, fun q hq => ?_⟩
  · rw [← e2, outAll_grps hd0 _ hT, filter_flat (dropG o b) hd0 L, e2]
    congr 1
    funext g
    exact dropG_twice o b g
  · rw [← e2, outAll_grps (hv0 q) _ hT, filter_flat (visG q) (hv0 q) L, outAll_grps (hv0 q) L hL]
    congr 1
    funext g
    rw [visG_eq, visG_eq]
    exact visF_drop o q b hq g
theorem visG_len' (q : Int) (l : List S24) : (outAll (visG q) l).length ≤ l.length := by
  have := outTo_len (visG_len q) l l.length
  unfold outAll
  omega
/-- Who is seen. -/
theorem visR_mem (q : Int) (x : S24) : ∀ (l pre : List S24), x ∈ visR q pre l ↔ ∃ a b, l = a ++ x :: b ∧ x.f1 ≤ q ∧ blocks q (pre ++ a) x = false ∧ x.f3 = false
  | [], pre => by
    constructor
    · intro h; cases h
    · rintro ⟨a, b, h, _⟩; simp at h
  | c :: l, pre => by
    rw [visR_cons, List.mem_append, visR_mem q x l (pre ++ [c])]
    constructor
    · rintro (h | ⟨a, b, rfl, h1, h2, h3⟩)
      · split at h
        · rename_i hc
          obtain rfl := List.mem_singleton.1 h
          simp only [Bool.and_eq_true, decide_eq_true_eq, Bool.not_eq_true'] at hc
          exact ⟨[], l, rfl, hc.1.1, by rw [List.append_nil]; exact hc.1.2, hc.2⟩
        · cases h
      · exact ⟨c :: a, b, rfl, h1, by rw [List.append_assoc, List.singleton_append] at h2; exact h2, h3⟩
    · rintro ⟨a, b, h, h1, h2, h3⟩
      cases a with
      | nil =>
        obtain ⟨rfl, rfl⟩ := List.cons.inj (by simpa using h)
        left
        rw [List.append_nil] at h2
        rw [if_pos (by simp [h1, h2, h3])]
        simp
      | cons y a =>
        obtain ⟨rfl, rfl⟩ := List.cons.inj (by simpa using h)
        exact .inr ⟨a, b, rfl, h1, by rw [List.append_assoc, List.singleton_append]; exact h2, h3⟩
theorem visR_sub (q : Int) : ∀ (l pre : List S24), (visR q pre l).Sublist l
  | [], pre => List.Sublist.slnil
  | c :: l, pre => by
    rw [visR_cons]
    split
    · exact List.Sublist.cons_cons c (visR_sub q l _)
    · exact List.Sublist.cons c (visR_sub q l _)
theorem seq_lt {a b : S24} (h : cmpOf a b < 0) (hk : keyOf a = keyOf b) : b.f1 < a.f1 := by
  rcases (cmp_lt_iff a b).1 h with h | h
  · have := (key_iff a b).1 hk; omega
  · exact h.2
/-- In a list in order: the newest one of its key up to q, if it is not gone. -/
theorem vis_mem (q : Int) (l : List S24) (hs : Strict l) (x : S24) : x ∈ visR q [] l ↔ x ∈ l ∧ x.f1 ≤ q ∧ x.f3 = false ∧ ∀ y ∈ l, keyOf y = keyOf x → y.f1 ≤ q → y.f1 ≤ x.f1 := by
  rw [visR_mem]
  constructor
  · rintro ⟨a, b, rfl, h1, h2, h3⟩
    rw [List.nil_append] at h2
    refine ⟨by simp, h1, h3, fun y hy hk hq => ?_⟩
    obtain ⟨_, hb, hc⟩ := strict_app hs
    rcases List.mem_append.1 hy with hy | hy
    · unfold blocks at h2
      rw [List.any_eq_false] at h2
      have := h2 y hy
      simp [show y.f0.toList = x.f0.toList from hk] at this
      omega
    · rcases List.mem_cons.1 hy with rfl | hy
      · exact Int.le_refl _
      · have := seq_lt ((List.pairwise_cons.1 hb).1 y hy) hk.symm
        omega
  · rintro ⟨hx, h1, h3, h4⟩
    obtain ⟨a, b, rfl⟩ := List.append_of_mem hx
    refine ⟨a, b, rfl, h1, ?_, h3⟩
    rw [List.nil_append]
    unfold blocks
    rw [List.any_eq_false]
    intro y hy
    simp only [Bool.and_eq_true, decide_eq_true_eq, not_and]
    intro hk hq
    have h5 := h4 y (by simp [hy]) hk hq
    have h6 := seq_lt ((strict_app hs).2.2 y hy x (by simp)) hk
    omega
end Go.Proofs.Ytdpnhnfhobmopaa.P
