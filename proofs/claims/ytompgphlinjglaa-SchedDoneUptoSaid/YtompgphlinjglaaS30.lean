/- Rows of tasks as arguments; two boths side by side. -/
import Derived.Test.YtompgphlinjglaaS25
namespace Go.Proofs.Ytompgphlinjglaa.P
open Go.RowKit Go.Proofs.YtompgphlinjglaaW.PrintWords Go.Proofs.YtompgphlinjglaaW.PrintLast Go.Proofs.YtompgphlinjglaaW.PrintMore
attribute [local go_sem] Oper.semAt_some
set_option linter.unusedVariables false
set_option linter.unusedSimpArgs false

def kActs : Kd (List (Int × Int)) := Kd.slice 31 kAct
theorem heap_act : Kd.Heap kAct := Kd.heap_pair (Kd.heap_int _) (Kd.heap_int _)
theorem at_acts {w : World} {A : Option Addr} {n : Nat} {xs : List (List (Int × Int))} (h : kActs.C w A n xs) (i : Nat) (h1 : i < n) :
    ∃ ad A1 c1, A = some ad ∧ w.cell? (ad.add i) = some (.slice A1 (xs.getD i []).length c1) ∧ (xs.getD i []).length ≤ c1 ∧ kAct.C w A1 (xs.getD i []).length (xs.getD i []) := by
  obtain ⟨ad, c, e, _, hK, hc⟩ := Kd.C_get h [] (i : Int) (Int.natCast_nonneg _) (by omega)
  rw [Int.toNat_natCast] at hK hc
  obtain ⟨A1, c1, rfl, hl, hC⟩ := hK
  have := hc 0 _ rfl
  have s : kActs.sz = 1 := rfl
  rw [s, Nat.mul_one, Nat.add_zero] at this
  exact ⟨ad, A1, c1, e, this, hl, hC⟩
section
variable {w w0 w1 : World} {g g1 : Nat → Tag} {q p pl pr pl2 pr2 : Nat} {S R S2 R2 : LS}
def T01 : Tag → Prop := fun t => TB 0 t ∨ TB 1 t
theorem T01_data : ¬ T01 .data := fun h => h.elim TB_data TB_data
theorem TB_ne {j k : Nat} (h : j ≠ k) {t : Tag} (ht : TB j t) : ¬ TB k t := by
  intro h2
  unfold TB TP TR at ht h2
  cases t <;> simp at ht h2 <;> omega
/-- Two boths side by side. -/
def Du (w0 : World) (q p : Nat) (pl pr pl2 pr2 : Nat) (S R S2 R2 : LS) (w : World) : Prop := ∃ g, Ext w0.heap.size gData g ∧ Only T01 gData w0 w ∧ BoIs 0 w g q pl pr S R ∧ BoIs 1 w g p pl2 pr2 S2 R2
theorem Du.of (h : Cu 0 gData w0 q pl pr S R w) (h2 : ∀ g, ∃ g', Ext w.heap.size g g' ∧ BoIs 1 w1 g' p pl2 pr2 S2 R2) (hb : Below w.heap.size w w1) : Du w0 q p pl pr pl2 pr2 S R S2 R2 w1 := by
  obtain ⟨g, e, o, b⟩ := h
  obtain ⟨g', e', b'⟩ := h2 g
  exact ⟨g', e.trans e' o.size, (o.mono (fun t ht => .inl ht)).below hb, b.move (Only.of_below hb (fun _ => False) g) e' (fun h => h) (fun _ _ h => h), b'⟩
theorem Du.below (h : Du w0 q p pl pr pl2 pr2 S R S2 R2 w) (hb : Below w.heap.size w w1) : Du w0 q p pl pr pl2 pr2 S R S2 R2 w1 := by
  obtain ⟨g, e, o, b, b2⟩ := h
  exact ⟨g, e, o.below hb, b.move (Only.of_below hb (fun _ => False) g) (Ext.refl _ _) (fun h => h) (fun _ _ h => h), b2.move (Only.of_below hb (fun _ => False) g) (Ext.refl _ _) (fun h => h) (fun _ _ h => h)⟩
theorem Du.fin (h : Du w0 q p pl pr pl2 pr2 S R S2 R2 w) : Below w0.heap.size w0 w := by
  obtain ⟨g, e, o, b, b2⟩ := h
  exact o.fin (fun _ _ => rfl) T01_data
theorem Du.cells (h : Du w0 q p pl pr pl2 pr2 S R S2 R2 w) : w.cell? ⟨q, 0, none⟩ = some (.pointer (some ⟨pl, 0, none⟩)) ∧ w.cell? ⟨p, 0, none⟩ = some (.pointer (some ⟨pl2, 0, none⟩)) := by
  obtain ⟨g, e, o, b, b2⟩ := h
  exact ⟨(Cu.of b).cells.1, (Cu.of b2).cells.1⟩
/-- A call on the first. -/
theorem Du.one {f : Nat} {vs : Array Value} {P : Ending → Nat → Nat → LS → LS → Prop} (h : Du w0 q p pl pr pl2 pr2 S R S2 R2 w)
    (hc : ∀ g, Ext w0.heap.size gData g → Only T01 gData w0 w → Cu 0 g w q pl pr S R w → Calls Try.prog f vs w fun e w' => ∃ pl' pr' S' R', P e pl' pr' S' R' ∧ Cu 0 g w q pl' pr' S' R' w') :
    Calls Try.prog f vs w fun e w' => ∃ pl' pr' S' R', P e pl' pr' S' R' ∧ Du w0 q p pl' pr' pl2 pr2 S' R' S2 R2 w' := by
  obtain ⟨g, e, o, b, b2⟩ := h
  refine (hc g e o (Cu.of b)).mono ?_
  rintro ev w' ⟨pl', pr', S', R', hp, g', e', o', b'⟩
  exact ⟨pl', pr', S', R', hp, g', e.trans e' o.size, o.trans (o'.mono (fun t ht => .inl ht)) e, b', b2.move o' e' TB_data (fun t ht => TB_ne (by decide) ht)⟩
theorem Du.two {f : Nat} {vs : Array Value} {P : Ending → Nat → Nat → LS → LS → Prop} (h : Du w0 q p pl pr pl2 pr2 S R S2 R2 w)
    (hc : ∀ g, Ext w0.heap.size gData g → Only T01 gData w0 w → Cu 1 g w p pl2 pr2 S2 R2 w → Calls Try.prog f vs w fun e w' => ∃ pl' pr' S' R', P e pl' pr' S' R' ∧ Cu 1 g w p pl' pr' S' R' w') :
    Calls Try.prog f vs w fun e w' => ∃ pl' pr' S' R', P e pl' pr' S' R' ∧ Du w0 q p pl pr pl' pr' S R S' R' w' := by
  obtain ⟨g, e, o, b, b2⟩ := h
  refine (hc g e o (Cu.of b2)).mono ?_
  rintro ev w' ⟨pl', pr', S', R', hp, g', e', o', b'⟩
  exact ⟨pl', pr', S', R', hp, g', e.trans e' o.size, o.trans (o'.mono (fun t ht => .inr ht)) e, b.move o' e' TB_data (fun t ht => TB_ne (by decide) ht), b'⟩
theorem Du.next1 {B : Nat} (h : Du w0 q p pl pr pl2 pr2 S R S2 R2 w) (hg : Good B S) (hB : B ≤ 1152921504606846976) : Calls Try.prog 22 #[.pointer (some ⟨pl, 0, none⟩)] w fun e w' => e = .returned (.tuple #[.int .i64 (whoF S (pickF S)), .bool (stepsF S (pickF S))]) ∧ Du w0 q p pl pr pl2 pr2 (nextF S) R S2 R2 w' := by
  refine (h.one (P := fun e pl' pr' S' R' => e = .returned (.tuple #[.int .i64 (whoF S (pickF S)), .bool (stepsF S (pickF S))]) ∧ pl' = pl ∧ pr' = pr ∧ S' = nextF S ∧ R' = R) (fun g _ _ hc => (hc.lnext hg hB).mono (fun e w' hh => ⟨pl, pr, _, _, ⟨hh.1, rfl, rfl, rfl, rfl⟩, hh.2⟩))).mono ?_
  rintro e w' ⟨_, _, _, _, ⟨rfl, rfl, rfl, rfl, rfl⟩, hd⟩
  exact ⟨rfl, hd⟩
theorem Du.next2 {B : Nat} (h : Du w0 q p pl pr pl2 pr2 S R S2 R2 w) (hg : Good B S2) (hB : B ≤ 1152921504606846976) : Calls Try.prog 22 #[.pointer (some ⟨pl2, 0, none⟩)] w fun e w' => e = .returned (.tuple #[.int .i64 (whoF S2 (pickF S2)), .bool (stepsF S2 (pickF S2))]) ∧ Du w0 q p pl pr pl2 pr2 S R (nextF S2) R2 w' := by
  refine (h.two (P := fun e pl' pr' S' R' => e = .returned (.tuple #[.int .i64 (whoF S2 (pickF S2)), .bool (stepsF S2 (pickF S2))]) ∧ pl' = pl2 ∧ pr' = pr2 ∧ S' = nextF S2 ∧ R' = R2) (fun g _ _ hc => (hc.lnext hg hB).mono (fun e w' hh => ⟨pl2, pr2, _, _, ⟨hh.1, rfl, rfl, rfl, rfl⟩, hh.2⟩))).mono ?_
  rintro e w' ⟨_, _, _, _, ⟨rfl, rfl, rfl, rfl, rfl⟩, hd⟩
  exact ⟨rfl, hd⟩
theorem Du.add1 {A : Option Addr} {c : Nat} {acts : List (Int × Int)} (h : Du w0 q p pl pr pl2 pr2 S S S2 R2 w) (hA : kAct.C w0 A acts.length acts) (hc : acts.length ≤ c) (hl : acts.length ≤ 8796093022208) (hn : S.tasks.length ≤ 64) :
    Calls Try.prog 10 #[.pointer (some ⟨q, 0, none⟩), .slice A acts.length c] w fun e w' => e = .returned (.bool true) ∧ ∃ pl' pr', Du w0 q p pl' pr' pl2 pr2 (addF S acts) (addF S acts) S2 R2 w' := by
  refine (h.one (P := fun e pl' pr' S' R' => e = .returned (.bool true) ∧ S' = addF S acts ∧ R' = addF S acts) (fun g e o hc2 => ((Cu.add hc2 ((dat_arg heap_act hA).move o e T01_data) hc hl hn)).mono (fun e w' hh => by
    obtain ⟨h1, pl', pr', h2⟩ := hh
    exact ⟨pl', pr', _, _, ⟨h1, rfl, rfl⟩, h2⟩))).mono ?_
  rintro e w' ⟨pl', pr', _, _, ⟨rfl, rfl, rfl⟩, hd⟩
  exact ⟨rfl, pl', pr', hd⟩
theorem Du.add2 {A : Option Addr} {c : Nat} {acts : List (Int × Int)} (h : Du w0 q p pl pr pl2 pr2 S R S2 S2 w) (hA : kAct.C w0 A acts.length acts) (hc : acts.length ≤ c) (hl : acts.length ≤ 8796093022208) (hn : S2.tasks.length ≤ 64) :
    Calls Try.prog 10 #[.pointer (some ⟨p, 0, none⟩), .slice A acts.length c] w fun e w' => e = .returned (.bool true) ∧ ∃ pl' pr', Du w0 q p pl pr pl' pr' S R (addF S2 acts) (addF S2 acts) w' := by
  refine (h.two (P := fun e pl' pr' S' R' => e = .returned (.bool true) ∧ S' = addF S2 acts ∧ R' = addF S2 acts) (fun g e o hc2 => ((Cu.add hc2 ((dat_arg heap_act hA).move o e T01_data) hc hl hn)).mono (fun e w' hh => by
    obtain ⟨h1, pl', pr', h2⟩ := hh
    exact ⟨pl', pr', _, _, ⟨h1, rfl, rfl⟩, h2⟩))).mono ?_
  rintro e w' ⟨pl', pr', _, _, ⟨rfl, rfl, rfl⟩, hd⟩
  exact ⟨rfl, pl', pr', hd⟩
end
end Go.Proofs.Ytompgphlinjglaa.P
