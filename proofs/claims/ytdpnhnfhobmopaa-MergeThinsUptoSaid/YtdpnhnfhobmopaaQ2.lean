/- Lists of cells by keys: Visible and Drop, key by key and cell by cell, are the same. -/
import Derived.Test.YtdpnhnfhobmopaaQ1
namespace Go.Proofs.Ytdpnhnfhobmopaa.P
open Go.RowKit Go.Proofs.YtdpnhnfhobmopaaW.PrintWords Go.Proofs.YtdpnhnfhobmopaaW.PrintLast Go.Proofs.YtdpnhnfhobmopaaW.PrintMore
set_option linter.unusedVariables false
set_option linter.unusedSimpArgs false

abbrev keyOf (x : S24) : List UInt8 := x.f0.toList
/-- One key's cells. -/
def OneKey (g : List S24) : Prop := ∃ x t, g = x :: t ∧ ∀ y ∈ t, keyOf y = keyOf x
/-- Cells by keys: no two neighbours are of one key. -/
def IsGrps : List (List S24) → Prop
  | [] => True
  | g :: L => OneKey g ∧ (∀ x ∈ g, ∀ h ∈ L.head?, ∀ y ∈ h, keyOf y ≠ keyOf x) ∧ IsGrps L
theorem OneKey.key {g : List S24} (h : OneKey g) : ∀ x ∈ g, ∀ y ∈ g, keyOf x = keyOf y := by
  obtain ⟨a, t, rfl, ht⟩ := h
  have e : ∀ x ∈ a :: t, keyOf x = keyOf a := fun x hx => by
    rcases List.mem_cons.1 hx with rfl | hx
    · rfl
    · exact ht x hx
  intro x hx y hy
  rw [e x hx, e y hy]
theorem OneKey.ne {g : List S24} (h : OneKey g) : g ≠ [] := by obtain ⟨a, t, rfl, _⟩ := h; simp
theorem tw_app {p : S24 → Bool} : ∀ (t r : List S24), (∀ y ∈ t, p y = true) → (∀ y ∈ r.head?, p y = false) → (t ++ r).takeWhile p = t
  | [], r, _, h => by
    cases r with
    | nil => rfl
    | cons y r => rw [List.nil_append, List.takeWhile_cons_of_neg (by simpa using h y (by simp))]
  | a :: t, r, h1, h2 => by
    rw [List.cons_append, List.takeWhile_cons_of_pos (h1 a (by simp)), tw_app t r (fun y hy => h1 y (by simp [hy])) h2]
theorem run_grp {g : List S24} (hg : OneKey g) (r : List S24) (hr : ∀ x ∈ g, ∀ y ∈ r.head?, keyOf y ≠ keyOf x) : runLen (g ++ r) = g.length := by
  obtain ⟨a, t, rfl, ht⟩ := hg
  have e : runLen (a :: t ++ r) = 1 + ((t ++ r).takeWhile fun x => decide (x.f0.toList = a.f0.toList)).length := rfl
  rw [e, tw_app t r (fun y hy => decide_eq_true (ht y hy)) (fun y hy => decide_eq_false (hr a (by simp) y hy))]
  simp
  omega
theorem head_flat : ∀ (L : List (List S24)), IsGrps L → ∀ y ∈ L.flatten.head?, ∃ h ∈ L.head?, y ∈ h
  | [], _, y, hy => by simp at hy
  | g :: L, h, y, hy => by
    obtain ⟨⟨a, t, rfl, _⟩, _, _⟩ := h
    refine ⟨a :: t, by simp, ?_⟩
    have : a = y := by simpa using hy
    subst this
    simp
/-- What is taken key by key. -/
theorem outTo_grps {f : List S24 → List S24} : ∀ (L : List (List S24)), IsGrps L → outTo f L.flatten L.length = L.flatMap f ∧ restAt L.flatten L.length = []
  | [], _ => ⟨rfl, rfl⟩
  | g :: L, h => by
    obtain ⟨h1, h2, h3⟩ := h
    have hr : runLen ((g :: L).flatten) = g.length := by
      rw [List.flatten_cons]
      refine run_grp h1 _ (fun x hx y hy => ?_)
      obtain ⟨hd, hh, hy'⟩ := head_flat L h3 y hy
      exact h2 x hx hd hh y hy'
    have hd : (g :: L).flatten.drop (runLen (g :: L).flatten) = L.flatten := by rw [hr, List.flatten_cons, List.drop_left]
    have h0 : grp ((g :: L).flatten) 0 = g := by
      show (g :: L).flatten.take (runLen (g :: L).flatten) = g
      rw [hr, List.flatten_cons, List.take_left]
    have hs : ∀ t, grp ((g :: L).flatten) (t + 1) = grp L.flatten t := fun t => by
      unfold grp
      rw [restAt_shift, hd]
    obtain ⟨i1, i2⟩ := outTo_grps (f := f) L h3
    refine ⟨?_, ?_⟩
    · unfold outTo
      rw [List.length_cons, List.range_succ_eq_map, List.flatMap_cons, h0, List.flatMap_map, List.flatMap_cons]
      congr 1
      have : (fun a => f (grp (g :: L).flatten (a + 1))) = fun a => f (grp L.flatten a) := by funext t; rw [hs]
      show (List.range L.length).flatMap (fun a => f (grp (g :: L).flatten (a + 1))) = _
      rw [this]
      exact i1
    · rw [List.length_cons, restAt_shift, hd]
      exact i2
theorem flat_grps : ∀ (L : List (List S24)), IsGrps L → L.length ≤ L.flatten.length
  | [], _ => Nat.le_refl _
  | g :: L, h => by
    have := flat_grps L h.2.2
    have hp : 0 < g.length := List.length_pos_iff.2 h.1.ne
    rw [List.flatten_cons, List.length_append, List.length_cons]
    omega
theorem outAll_grps {f : List S24 → List S24} (hf0 : f [] = []) (L : List (List S24)) (h : IsGrps L) : outAll f L.flatten = L.flatMap f := by
  obtain ⟨h1, h2⟩ := outTo_grps (f := f) L h
  rw [outAll_eq hf0 _ L.length (flat_grps L h) h2, h1]
theorem dw_head {p : S24 → Bool} : ∀ (l : List S24), ∀ y ∈ (l.dropWhile p).head?, p y = false
  | [], y, h => by simp at h
  | a :: l, y, h => by
    by_cases ha : p a = true
    · rw [List.dropWhile_cons_of_pos ha] at h
      exact dw_head l y h
    · rw [List.dropWhile_cons_of_neg ha] at h
      have : a = y := by simpa using h
      subst this
      simpa using ha
theorem tw_all {p : S24 → Bool} : ∀ (l : List S24), ∀ y ∈ l.takeWhile p, p y = true
  | [], y, h => by simp at h
  | a :: l, y, h => by
    by_cases ha : p a = true
    · rw [List.takeWhile_cons_of_pos ha] at h
      rcases List.mem_cons.1 h with rfl | h
      · exact ha
      · exact tw_all l y h
    · rw [List.takeWhile_cons_of_neg ha] at h
      cases h
theorem exists_grps : ∀ (n : Nat) (l : List S24), l.length ≤ n → ∃ L, IsGrps L ∧ L.flatten = l
  | n, [], _ => ⟨[], trivial, rfl⟩
  | 0, x :: l, h => by simp at h
  | n + 1, x :: l, h => by
    have hsp := List.takeWhile_append_dropWhile (p := fun y : S24 => decide (y.f0.toList = x.f0.toList)) (l := l)
    have hlen := congrArg List.length hsp
    rw [List.length_append] at hlen
    obtain ⟨L, hL, hf⟩ := exists_grps n (l.dropWhile fun y => decide (y.f0.toList = x.f0.toList)) (by simp at h; omega)
    have h1 : OneKey (x :: l.takeWhile fun y => decide (y.f0.toList = x.f0.toList)) := ⟨x, _, rfl, fun y hy => of_decide_eq_true (tw_all (p := fun y => decide (y.f0.toList = x.f0.toList)) l y hy)⟩
    refine ⟨(x :: l.takeWhile fun y => decide (y.f0.toList = x.f0.toList)) :: L, ⟨h1, ?_, hL⟩, ?_⟩
    · intro a ha hd hh y hy
      have hk : keyOf a = keyOf x := h1.key a ha x (by simp)
      rw [hk]
      cases L with
      | nil => simp at hh
      | cons g L =>
        have : g = hd := by simpa using hh
        subst this
        obtain ⟨g1, _, _⟩ := hL
        have hgk := g1
        obtain ⟨b, t, rfl, _⟩ := g1
        have hb : keyOf b ≠ keyOf x := by
          have := dw_head (p := fun y => decide (y.f0.toList = x.f0.toList)) l b (by rw [← hf]; simp)
          exact of_decide_eq_false this
        rw [hgk.key y hy b (by simp)]
        exact hb
    · rw [List.flatten_cons, hf, List.cons_append, hsp]
/-- In a list in order a key stands in one place alone. -/
theorem key_lt_trans {a b c : S24} (h1 : cmpOf a b < 0) (n1 : keyOf a ≠ keyOf b) (h2 : cmpOf b c ≤ 0) : keyOf a ≠ keyOf c := by
  intro e
  have k1 := (cmp_lt_iff a b).1 h1
  have c1 : Lib.compareBytes a.f0.data.toList b.f0.data.toList < 0 := by
    rcases k1 with k | k
    · exact k
    · exact absurd k.1 n1
  have e0 := (key_iff a c).1 e
  rw [cb_zero] at e0
  have c2 : Lib.compareBytes b.f0.data.toList c.f0.data.toList ≤ 0 := by
    unfold cmpOf at h2
    by_cases hz : Lib.compareBytes b.f0.data.toList c.f0.data.toList = 0
    · omega
    · rw [if_pos hz] at h2; exact h2
  rw [← e0] at c2
  have := cb_swap a.f0.data.toList b.f0.data.toList
  omega
theorem grps_apart : ∀ (L : List (List S24)), IsGrps L → Strict L.flatten → ∀ g M, L = g :: M → ∀ x ∈ g, ∀ y ∈ M.flatten, keyOf x ≠ keyOf y := by
  intro L hL hs g M he x hx y hy
  subst he
  obtain ⟨h1, h2, h3⟩ := hL
  rw [List.flatten_cons] at hs
  obtain ⟨_, hsM, hcr⟩ := strict_app hs
  cases M with
  | nil => simp at hy
  | cons h M =>
    obtain ⟨⟨b, t, rfl, _⟩, _, _⟩ := h3
    have hb : b ∈ ((b :: t) :: M).flatten := by simp
    have hxb := hcr x hx b hb
    have hn : keyOf x ≠ keyOf b := fun e => h2 x hx _ rfl b (by simp) e.symm
    have hby : cmpOf b y ≤ 0 := by
      rw [List.flatten_cons, List.cons_append] at hsM hy
      exact strict_le hsM y hy
    exact key_lt_trans hxb hn hby
/-- The first cell to be seen at q, if it is not gone. -/
def visF (q : Int) : List S24 → List S24
  | [] => []
  | x :: g => if x.f1 ≤ q then (if x.f3 = false then [x] else []) else visF q g
theorem visG_eq (q : Int) (g : List S24) : visG q g = visF q g := by
  have key : ∀ (h : List S24) (i : Nat) (pre : List S24), pre.length = i → (if 0 ≤ idxFrom q h i then (if (rd_T24 (pre ++ h) (idxFrom q h i)).f3 = false then [rd_T24 (pre ++ h) (idxFrom q h i)] else []) else []) = visF q h := by
    intro h
    induction h with
    | nil => intro i pre hp; simp [idxFrom, visF]
    | cons x h ih =>
      intro i pre hp
      unfold idxFrom visF
      by_cases hx : x.f1 ≤ q
      · rw [if_pos hx, if_pos hx, if_pos (by omega)]
        have e : rd_T24 (pre ++ x :: h) (i : Int) = x := by
          rw [rd24_getElem _ i (by simp; omega), List.getElem_append_right (by omega)]
          simp [hp]
        rw [e]
      · rw [if_neg hx, if_neg hx]
        have := ih (i + 1) (pre ++ [x]) (by simp [hp])
        rw [List.append_assoc, List.singleton_append] at this
        exact this
  have := key g 0 [] rfl
  exact this
theorem blocks_other {q : Int} {pre : List S24} {c : S24} (h : ∀ d ∈ pre, keyOf d ≠ keyOf c) : blocks q pre c = false := by
  unfold blocks
  rw [List.any_eq_false]
  intro d hd
  simp [h d hd]
theorem blocks_app (q : Int) (a b : List S24) (c : S24) : blocks q (a ++ b) c = (blocks q a c || blocks q b c) := by unfold blocks; rw [List.any_append]
theorem blocks_one {q : Int} {d c : S24} (hk : keyOf d = keyOf c) : blocks q [d] c = decide (d.f1 ≤ q) := by
  unfold blocks
  simp [hk]
theorem visR_cons (q : Int) (pre : List S24) (c : S24) (l : List S24) : visR q pre (c :: l) = (if (decide (c.f1 ≤ q) && !blocks q pre c && !c.f3) = true then [c] else []) ++ visR q (pre ++ [c]) l := rfl
theorem dropR_cons (o : Int) (b : Bool) (pre : List S24) (c : S24) (l : List S24) : dropR o b pre (c :: l) = (if (decide (c.f1 > o) || (decide (c.f1 ≤ o) && !blocks o pre c && !(b && c.f3))) = true then [c] else []) ++ dropR o b (pre ++ [c]) l := rfl
theorem visF_cons (q : Int) (x : S24) (g : List S24) : visF q (x :: g) = if x.f1 ≤ q then (if x.f3 = false then [x] else []) else visF q g := rfl
theorem dropG_cons (o : Int) (b : Bool) (x : S24) (g : List S24) : dropG o b (x :: g) = if x.f1 ≤ o then (if (b && x.f3) = true then [] else [x]) else x :: dropG o b g := rfl
/-- One key's cells behind others: cell by cell. -/
theorem visR_seen (q : Int) : ∀ (g rest pre : List S24), OneKey g ∨ g = [] → (∀ c ∈ g, blocks q pre c = true) → visR q pre (g ++ rest) = visR q (pre ++ g) rest
  | [], rest, pre, _, _ => by simp
  | x :: g, rest, pre, h, hb => by
    have hk : OneKey g ∨ g = [] := by
      rcases h with ⟨a, t, he, ht⟩ | h
      · obtain ⟨rfl, rfl⟩ := List.cons.inj he
        cases g with
        | nil => exact .inr rfl
        | cons b g => exact .inl ⟨b, g, rfl, fun y hy => (ht y (by simp [hy])).trans (ht b (by simp)).symm⟩
      · cases h
    rw [List.cons_append]
    rw [visR_cons, hb x (by simp)]
    simp only [Bool.not_true, Bool.and_false, Bool.false_and, Bool.false_eq_true, if_false, List.nil_append]
    rw [visR_seen q g rest (pre ++ [x]) hk (fun c hc => by rw [blocks_app, hb c (by simp [hc])]; rfl), List.append_assoc, List.singleton_append]
theorem one_tail {x : S24} {g : List S24} (h : OneKey (x :: g)) : OneKey g ∨ g = [] := by
  obtain ⟨a, t, he, ht⟩ := h
  obtain ⟨rfl, rfl⟩ := List.cons.inj he
  cases g with
  | nil => exact .inr rfl
  | cons b g => exact .inl ⟨b, g, rfl, fun y hy => (ht y (by simp [hy])).trans (ht b (by simp)).symm⟩
theorem visR_grp (q : Int) : ∀ (g rest pre : List S24), OneKey g ∨ g = [] → (∀ c ∈ g, blocks q pre c = false) → visR q pre (g ++ rest) = visF q g ++ visR q (pre ++ g) rest
  | [], rest, pre, _, _ => by simp [visF]
  | x :: g, rest, pre, h, hb => by
    have h1 : OneKey (x :: g) := by
      rcases h with h | h
      · exact h
      · cases h
    have hk := one_tail h1
    have hall : ∀ c ∈ g, blocks q (pre ++ [x]) c = decide (x.f1 ≤ q) := fun c hc => by
      rw [blocks_app, hb c (by simp [hc]), blocks_one (h1.key x (by simp) c (by simp [hc])), Bool.false_or]
    rw [List.cons_append]
    rw [visR_cons, visF_cons, hb x (by simp)]
    by_cases hx : x.f1 ≤ q
    · rw [if_pos hx]
      rw [visR_seen q g rest (pre ++ [x]) hk (fun c hc => by rw [hall c hc, decide_eq_true hx]), List.append_assoc, List.singleton_append, decide_eq_true hx]
      congr 1
      cases x.f3 <;> simp
    · rw [if_neg hx, decide_eq_false hx]
      simp only [Bool.false_and, Bool.false_eq_true, if_false, List.nil_append]
      rw [visR_grp q g rest (pre ++ [x]) hk (fun c hc => by rw [hall c hc, decide_eq_false hx]), List.append_assoc, List.singleton_append]
theorem visR_grps (q : Int) : ∀ (L : List (List S24)) (pre : List S24), IsGrps L → Strict L.flatten → (∀ d ∈ pre, ∀ c ∈ L.flatten, keyOf d ≠ keyOf c) → visR q pre L.flatten = L.flatMap (visF q)
  | [], pre, _, _, _ => rfl
  | g :: L, pre, h, hs, hp => by
    have ha := grps_apart (g :: L) h hs g L rfl
    obtain ⟨h1, h2, h3⟩ := h
    rw [List.flatten_cons] at hs hp ⊢
    rw [visR_grp q g L.flatten pre (.inl h1) (fun c hc => blocks_other (fun d hd => hp d hd c (by simp [hc]))), List.flatMap_cons]
    congr 1
    refine visR_grps q L (pre ++ g) h3 (strict_app hs).2.1 (fun d hd c hc => ?_)
    rcases List.mem_append.1 hd with hd | hd
    · exact hp d hd c (by simp [List.mem_append, hc])
    · exact ha d hd c hc
theorem visible_eq (q : Int) (l : List S24) (hs : Strict l) : outAll (visG q) l = visR q [] l := by
  obtain ⟨L, hL, rfl⟩ := exists_grps l.length l (Nat.le_refl _)
  rw [outAll_grps (by unfold visG; rfl) L hL, visR_grps q L [] hL hs (fun d hd => by cases hd)]
  congr 1
  funext g
  exact visG_eq q g
theorem dropR_seen (o : Int) (b : Bool) : ∀ (g rest pre : List S24), OneKey g ∨ g = [] → (∀ c ∈ g, c.f1 ≤ o) → (∀ c ∈ g, blocks o pre c = true) → dropR o b pre (g ++ rest) = dropR o b (pre ++ g) rest
  | [], rest, pre, _, _, _ => by simp
  | x :: g, rest, pre, h, hq, hb => by
    have h1 : OneKey (x :: g) := by
      rcases h with h | h
      · exact h
      · cases h
    rw [List.cons_append]
    rw [dropR_cons, hb x (by simp), decide_eq_false (show ¬ x.f1 > o by have := hq x (by simp); omega)]
    simp only [Bool.not_true, Bool.and_false, Bool.false_and, Bool.or_self, Bool.false_eq_true, if_false, List.nil_append]
    rw [dropR_seen o b g rest (pre ++ [x]) (one_tail h1) (fun c hc => hq c (by simp [hc])) (fun c hc => by rw [blocks_app, hb c (by simp [hc])]; rfl), List.append_assoc, List.singleton_append]
theorem strict_desc {x : S24} {g : List S24} (h1 : OneKey (x :: g)) (hs : Strict (x :: g)) : ∀ c ∈ g, c.f1 < x.f1 := by
  intro c hc
  have h := (List.pairwise_cons.1 hs).1 c hc
  rcases (cmp_lt_iff x c).1 h with h | h
  · have := (key_iff x c).1 (h1.key x (by simp) c (by simp [hc]))
    omega
  · exact h.2
theorem dropR_grp (o : Int) (b : Bool) : ∀ (g rest pre : List S24), OneKey g ∨ g = [] → Strict g → (∀ c ∈ g, blocks o pre c = false) → dropR o b pre (g ++ rest) = dropG o b g ++ dropR o b (pre ++ g) rest
  | [], rest, pre, _, _, _ => by simp [dropG]
  | x :: g, rest, pre, h, hs, hb => by
    have h1 : OneKey (x :: g) := by
      rcases h with h | h
      · exact h
      · cases h
    have hk := one_tail h1
    have hall : ∀ c ∈ g, blocks o (pre ++ [x]) c = decide (x.f1 ≤ o) := fun c hc => by
      rw [blocks_app, hb c (by simp [hc]), blocks_one (h1.key x (by simp) c (by simp [hc])), Bool.false_or]
    have hd := strict_desc h1 hs
    rw [List.cons_append]
    rw [dropR_cons, dropG_cons, hb x (by simp)]
    by_cases hx : x.f1 ≤ o
    · rw [if_pos hx]
      rw [dropR_seen o b g rest (pre ++ [x]) hk (fun c hc => by have := hd c hc; omega) (fun c hc => by rw [hall c hc, decide_eq_true hx]), List.append_assoc, List.singleton_append, decide_eq_true hx, decide_eq_false (show ¬ x.f1 > o by omega)]
      congr 1
      cases b <;> cases x.f3 <;> simp
    · rw [if_neg hx, decide_eq_true (show x.f1 > o by omega)]
      simp only [Bool.true_or, if_true]
      rw [dropR_grp o b g rest (pre ++ [x]) hk (List.pairwise_cons.1 hs).2 (fun c hc => by rw [hall c hc, decide_eq_false hx]), List.append_assoc, List.singleton_append]
      rfl
theorem dropR_grps (o : Int) (b : Bool) : ∀ (L : List (List S24)) (pre : List S24), IsGrps L → Strict L.flatten → (∀ d ∈ pre, ∀ c ∈ L.flatten, keyOf d ≠ keyOf c) → dropR o b pre L.flatten = L.flatMap (dropG o b)
  | [], pre, _, _, _ => rfl
  | g :: L, pre, h, hs, hp => by
    have ha := grps_apart (g :: L) h hs g L rfl
    obtain ⟨h1, h2, h3⟩ := h
    rw [List.flatten_cons] at hs hp ⊢
    rw [dropR_grp o b g L.flatten pre (.inl h1) (strict_app hs).1 (fun c hc => blocks_other (fun d hd => hp d hd c (by simp [hc]))), List.flatMap_cons]
    congr 1
    refine dropR_grps o b L (pre ++ g) h3 (strict_app hs).2.1 (fun d hd c hc => ?_)
    rcases List.mem_append.1 hd with hd | hd
    · exact hp d hd c (by simp [List.mem_append, hc])
    · exact ha d hd c hc
theorem drop_eq (o : Int) (b : Bool) (l : List S24) (hs : Strict l) : outAll (dropG o b) l = dropR o b [] l := by
  obtain ⟨L, hL, rfl⟩ := exists_grps l.length l (Nat.le_refl _)
  rw [outAll_grps (by unfold dropG; rfl) L hL, dropR_grps o b L [] hL hs (fun d hd => by cases hd)]
end Go.Proofs.Ytdpnhnfhobmopaa.P
