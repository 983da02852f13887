/- What lies in memory: tags tell to whom a block belongs; what a call keeps; rows, tasks, loops. -/
import Derived.Test.YtompgphlinjglaaS0
namespace Go.Proofs.Ytompgphlinjglaa.P
open Go.RowKit Go.Proofs.YtompgphlinjglaaW.PrintWords Go.Proofs.YtompgphlinjglaaW.PrintLast Go.Proofs.YtompgphlinjglaaW.PrintMore
set_option linter.unusedVariables false
set_option linter.unusedSimpArgs false

/-- To whom a block belongs. -/
inductive Tag
  | data | other
  | loop (k : Nat) | env (k : Nat) | tasks (k : Nat) | waits (k : Nat) | act (k i : Nat) | told (k i : Nat)
  | rloop (k : Nat) | rtasks (k : Nat) | ract (k i : Nat) | rtold (k i : Nat)
  | both (k : Nat) | bacts (k : Nat)
  deriving DecidableEq
def Ext (n : Nat) (g g' : Nat → Tag) : Prop := ∀ i, i < n → g' i = g i
theorem Ext.refl (n : Nat) (g : Nat → Tag) : Ext n g g := fun _ _ => rfl
theorem Ext.trans {n m : Nat} {g g1 g2 : Nat → Tag} (h : Ext n g g1) (k : Ext m g1 g2) (hm : n ≤ m) : Ext n g g2 := fun i hi => (k i (Nat.lt_of_lt_of_le hi hm)).trans (h i hi)
def put (g : Nat → Tag) (n : Nat) (t : Tag) : Nat → Tag := fun i => if i = n then t else g i
theorem put_ext (g : Nat → Tag) (n m : Nat) (t : Tag) (h : m ≤ n) : Ext m g (put g n t) := fun i hi => if_neg (by omega)
theorem put_at (g : Nat → Tag) (n : Nat) (t : Tag) : put g n t n = t := if_pos rfl
/-- What a call keeps: all but the blocks whose tags are in T, and what is new. -/
structure Only (T : Tag → Prop) (g : Nat → Tag) (w w' : World) : Prop where
  os : w'.os = w.os
  tape : w'.tape = w.tape
  output : w'.output = w.output
  size : w.heap.size ≤ w'.heap.size
  block : ∀ b, b < w.heap.size → ¬ T (g b) → w'.heap[b]? = w.heap[b]?
section
variable {T T' : Tag → Prop} {g g' : Nat → Tag} {w w1 w2 : World}
theorem Only.refl (T : Tag → Prop) (g : Nat → Tag) (w : World) : Only T g w w := ⟨rfl, rfl, rfl, Nat.le_refl _, fun _ _ _ => rfl⟩
theorem Only.mono (h : Only T g w w1) (ht : ∀ t, T t → T' t) : Only T' g w w1 := ⟨h.os, h.tape, h.output, h.size, fun b hb hn => h.block b hb (fun k => hn (ht _ k))⟩
theorem Only.trans (h : Only T g w w1) (k : Only T g' w1 w2) (he : Ext w.heap.size g g') : Only T g w w2 :=
  ⟨k.os.trans h.os, k.tape.trans h.tape, k.output.trans h.output, Nat.le_trans h.size k.size, fun b hb hn => (k.block b (Nat.lt_of_lt_of_le hb h.size) (by rw [he b hb]; exact hn)).trans (h.block b hb hn)⟩
theorem Only.of_below (h : Below w.heap.size w w1) (T : Tag → Prop) (g : Nat → Tag) : Only T g w w1 := ⟨h.os, h.tape, h.output, h.size, fun b hb _ => h.block b hb⟩
theorem Only.below (h : Only T g w w1) (k : Below w1.heap.size w1 w2) : Only T g w w2 :=
  ⟨k.os.trans h.os, k.tape.trans h.tape, k.output.trans h.output, Nat.le_trans h.size k.size, fun b hb hn => (k.block b (Nat.lt_of_lt_of_le hb h.size)).trans (h.block b hb hn)⟩
theorem Only.then_ (h : Below w.heap.size w w1) (k : Only T g' w1 w2) (he : Ext w.heap.size g g') : Only T g w w2 := (Only.of_below h T g).trans k he
theorem Only.alloc (h : Only T g w w1) (o : Obj) : Only T g w (w1.alloc o) := h.below (below_alloc (Below.refl _ _) o)
theorem Only.drew (h : Only T g w w1) : Only T g w w1.drew := h.below (below_drew (Below.refl _ _))
theorem Only.drewN (h : Only T g w w1) (n : Nat) : Only T g w (w1.drewN n) := h.below (pw_below_drewN (Below.refl _ _) n)
theorem Only.setCell (h : Only T g w w1) {p : Addr} (hp : T (g p.block) ∨ w.heap.size ≤ p.block) (u : Value) : Only T g w (w1.setCell p u) :=
  ⟨h.os, h.tape, h.output, by simpa [World.setCell] using h.size, fun b hb hn => (Below.heap_setCell w1 p u b (by
    rintro rfl
    rcases hp with hp | hp
    · exact hn hp
    · omega)).trans (h.block b hb hn)⟩
theorem Only.grown (h : Only T g w w1) {row : Option Nat} (hg : w1.grownBy w2 row) (hr : ∀ b, row = some b → T (g b) ∨ w.heap.size ≤ b) : Only T g w w2 :=
  ⟨hg.os.trans h.os, hg.tape.trans h.tape, hg.output.trans h.output, Nat.le_trans h.size hg.size, fun b hb hn => (hg.block b (Nat.lt_of_lt_of_le hb h.size) (fun e => by
    rcases hr b e.symm with hp | hp
    · exact hn hp
    · omega)).trans (h.block b hb hn)⟩
theorem Only.blk (h : Only T g w w1) {b : Nat} {o : Obj} (hb : w.heap[b]? = some o) (hn : ¬ T (g b)) : w1.heap[b]? = some o := (h.block b (blk_lt hb) hn).trans hb
/-- What the law owes in the end. -/
theorem Only.fin (h : Only T g w w1) (hd : ∀ b, b < w.heap.size → g b = .data) (hT : ¬ T .data) : Below w.heap.size w w1 :=
  ⟨h.os, h.tape, h.output, h.size, fun b hb => h.block b hb (by rw [hd b hb]; exact hT)⟩
end
/-- A row that is read and never written. -/
def Dat {α : Type} (d : Kd α) (w : World) (g : Nat → Tag) (A : Option Addr) (n : Nat) (xs : List α) : Prop := Kd.F d w (fun b => g b = .data) A n xs
theorem Dat.now {α : Type} {d : Kd α} {w : World} {g : Nat → Tag} {A : Option Addr} {n : Nat} {xs : List α} (h : Dat d w g A n xs) : d.C w A n xs := Kd.F_now h
theorem Dat.move {α : Type} {d : Kd α} {w w1 : World} {g g1 : Nat → Tag} {A : Option Addr} {n : Nat} {xs : List α} {T : Tag → Prop} (h : Dat d w g A n xs) (ho : Only T g w w1) (he : Ext w.heap.size g g1) (hT : ¬ T .data) : Dat d w1 g1 A n xs :=
  Kd.F_mono (Kd.F_step (Kd.F_bound h) (fun k hk hlt => ho.block k hlt (by rw [hk.1]; exact hT))) (fun k hk => (he k hk.2).trans hk.1)
/-- A row of the call's own: scalars, under a tag. -/
def Row {α : Type} (d : Kd α) (e : Nat) (w : World) (g : Nat → Tag) (t : Tag) (v : Value) (xs : List α) : Prop := d.R e w 0 (fun _ => True) v xs ∧ ∀ b, v.ownBlock = some b → g b = t
theorem Row.move {α : Type} {d : Kd α} (hE : d.E = []) {e : Nat} {w w1 : World} {g g1 : Nat → Tag} {t : Tag} {v : Value} {xs : List α} {T : Tag → Prop} (h : Row d e w g t v xs) (ho : Only T g w w1) (he : Ext w.heap.size g g1) (hT : ¬ T t) : Row d e w1 g1 t v xs :=
  ⟨Kd.R_mono (Kd.R_step (Kd.R_tight hE h.1) (fun k hk hlt => ho.block k hlt (by rw [h.2 k hk.symm]; exact hT))) (fun _ _ => trivial), fun b hb => (he b (Kd.R_lt h.1 b hb)).trans (h.2 b hb)⟩
theorem Row.nil {α : Type} (d : Kd α) (e : Nat) (w : World) (g : Nat → Tag) (t : Tag) : Row d e w g t (.slice none 0 0) [] := ⟨Kd.R_nil _ _ _ _ _, fun b hb => by simp [Value.ownBlock] at hb⟩
def kAct : Kd (Int × Int) := Kd.pair (Kd.int .i64) (Kd.int .i64)
def kTask : Kd Nat := Kd.scalar (fun b => .iface 59 (.pointer (some ⟨b, 0, none⟩))) (fun _ => rfl)
def kPtr : Kd Nat := Kd.scalar (fun b => .pointer (some ⟨b, 0, none⟩)) (fun _ => rfl)
/-- A task of the program's. -/
structure ActAt (k i : Nat) (w : World) (g : Nat → Tag) (b : Nat) (t : TS) (A : Option Addr) (c : Nat) (v : Value) : Prop where
  blk : w.heap[b]? = some (.cells #[.slice A t.acts.length c, .int .i64 t.pos, v] 91 (0, 0))
  cap : t.acts.length ≤ c
  acts : Dat kAct w g A t.acts.length t.acts
  told : Row (Kd.int .u64) 48 w g (.told k i) v t.told
  tag : g b = .act k i
def ActIs (k i : Nat) (w : World) (g : Nat → Tag) (b : Nat) (t : TS) : Prop := ∃ A c v, ActAt k i w g b t A c v
theorem ActIs.move {k i : Nat} {w w1 : World} {g g1 : Nat → Tag} {b : Nat} {t : TS} {T : Tag → Prop} (h : ActIs k i w g b t) (ho : Only T g w w1) (he : Ext w.heap.size g g1) (h0 : ¬ T .data) (h1 : ¬ T (.act k i)) (h2 : ¬ T (.told k i)) : ActIs k i w1 g1 b t := by
  obtain ⟨A, c, v, h⟩ := h
  exact ⟨A, c, v, ho.blk h.blk (by rw [h.tag]; exact h1), h.cap, h.acts.move ho he h0, h.told.move rfl ho he h2, (he b (blk_lt h.blk)).trans h.tag⟩
/-- A loop of the program's. -/
structure LoopAt (k : Nat) (w : World) (g : Nat → Tag) (p : Nat) (S : LS) (A0 : Option Addr) (c0 : Nat) (A1 : Option Addr) (c1 : Nat) (A2 : Option Addr) (c2 : Nat) (At : Option Addr) (ct : Nat) (Aw : Option Addr) (cw : Nat) (e : Nat) (bs : List Nat) : Prop where
  blk : w.heap[p]? = some (.cells #[.slice A0 S.picks.length c0, .slice A1 S.ticks.length c1, .slice A2 S.draws.length c2, .slice At S.tasks.length ct, .slice Aw S.tasks.length cw, .pointer (some ⟨e, 0, none⟩), .int .i64 S.count, .int .i64 S.used] 81 (0, 0))
  env : w.heap[e]? = some (.cells #[.int .u64 S.clock, .slice A2 S.draws.length c2, .int .i64 S.drawn] 83 (0, 0))
  l0 : S.picks.length ≤ c0
  l1 : S.ticks.length ≤ c1
  l2 : S.draws.length ≤ c2
  picks : Dat (Kd.int .i64) w g A0 S.picks.length S.picks
  ticks : Dat (Kd.int .i64) w g A1 S.ticks.length S.ticks
  draws : Dat (Kd.int .u64) w g A2 S.draws.length S.draws
  tasks : Row kTask 85 w g (.tasks k) (.slice At S.tasks.length ct) bs
  waits : Row (Kd.int .i64) 3 w g (.waits k) (.slice Aw S.tasks.length cw) (waitsF S)
  each : ∀ i, i < S.tasks.length → ActIs k i w g (bs.getD i 0) (taskF S i)
  tag : g p = .loop k
  etag : g e = .env k
def LoopIs (k : Nat) (w : World) (g : Nat → Tag) (p : Nat) (S : LS) (bs : List Nat) : Prop := ∃ A0 c0 A1 c1 A2 c2 At ct Aw cw e, LoopAt k w g p S A0 c0 A1 c1 A2 c2 At ct Aw cw e bs
/-- The program's tags. -/
def TP (k : Nat) : Tag → Prop
  | .loop j | .env j | .tasks j | .waits j | .act j _ | .told j _ => j = k
  | _ => False
/-- The reference's tags. -/
def TR (k : Nat) : Tag → Prop
  | .rloop j | .rtasks j | .ract j _ | .rtold j _ => j = k
  | _ => False
theorem LoopIs.move {k : Nat} {w w1 : World} {g g1 : Nat → Tag} {p : Nat} {S : LS} {bs : List Nat} {T : Tag → Prop} (h : LoopIs k w g p S bs) (ho : Only T g w w1) (he : Ext w.heap.size g g1) (h0 : ¬ T .data) (h1 : ∀ t, TP k t → ¬ T t) : LoopIs k w1 g1 p S bs := by
  obtain ⟨A0, c0, A1, c1, A2, c2, At, ct, Aw, cw, e, h⟩ := h
  exact ⟨A0, c0, A1, c1, A2, c2, At, ct, Aw, cw, e, ho.blk h.blk (by rw [h.tag]; exact h1 _ rfl), ho.blk h.env (by rw [h.etag]; exact h1 _ rfl), h.l0, h.l1, h.l2, h.picks.move ho he h0, h.ticks.move ho he h0, h.draws.move ho he h0,
    h.tasks.move rfl ho he (h1 _ rfl), h.waits.move rfl ho he (h1 _ rfl), fun i hi => (h.each i hi).move ho he h0 (h1 _ rfl) (h1 _ rfl), (he p (blk_lt h.blk)).trans h.tag, (he e (blk_lt h.env)).trans h.etag⟩
/-- A task of the reference's. -/
structure RActAt (k i : Nat) (w : World) (g : Nat → Tag) (b : Nat) (t : TS) (A : Option Addr) (c : Nat) (v : Value) : Prop where
  blk : w.heap[b]? = some (.cells #[.slice A t.acts.length c, .int .i64 t.pos, .int .i64 t.wait, v] 78 (0, 0))
  cap : t.acts.length ≤ c
  acts : Dat kAct w g A t.acts.length t.acts
  told : Row (Kd.int .u64) 48 w g (.rtold k i) v t.told
  tag : g b = .ract k i
def RActIs (k i : Nat) (w : World) (g : Nat → Tag) (b : Nat) (t : TS) : Prop := ∃ A c v, RActAt k i w g b t A c v
theorem RActIs.move {k i : Nat} {w w1 : World} {g g1 : Nat → Tag} {b : Nat} {t : TS} {T : Tag → Prop} (h : RActIs k i w g b t) (ho : Only T g w w1) (he : Ext w.heap.size g g1) (h0 : ¬ T .data) (h1 : ¬ T (.ract k i)) (h2 : ¬ T (.rtold k i)) : RActIs k i w1 g1 b t := by
  obtain ⟨A, c, v, h⟩ := h
  exact ⟨A, c, v, ho.blk h.blk (by rw [h.tag]; exact h1), h.cap, h.acts.move ho he h0, h.told.move rfl ho he h2, (he b (blk_lt h.blk)).trans h.tag⟩
/-- A loop of the reference's. -/
structure RefAt (k : Nat) (w : World) (g : Nat → Tag) (p : Nat) (S : LS) (A0 : Option Addr) (c0 : Nat) (A1 : Option Addr) (c1 : Nat) (A2 : Option Addr) (c2 : Nat) (At : Option Addr) (ct : Nat) (bs : List Nat) : Prop where
  blk : w.heap[p]? = some (.cells #[.slice A0 S.picks.length c0, .slice A1 S.ticks.length c1, .slice A2 S.draws.length c2, .slice At S.tasks.length ct, .int .u64 S.clock, .int .i64 S.count, .int .i64 S.used, .int .i64 S.drawn] 75 (0, 0))
  l0 : S.picks.length ≤ c0
  l1 : S.ticks.length ≤ c1
  l2 : S.draws.length ≤ c2
  picks : Dat (Kd.int .i64) w g A0 S.picks.length S.picks
  ticks : Dat (Kd.int .i64) w g A1 S.ticks.length S.ticks
  draws : Dat (Kd.int .u64) w g A2 S.draws.length S.draws
  tasks : Row kPtr 76 w g (.rtasks k) (.slice At S.tasks.length ct) bs
  each : ∀ i, i < S.tasks.length → RActIs k i w g (bs.getD i 0) (taskF S i)
  tag : g p = .rloop k
def RefIs (k : Nat) (w : World) (g : Nat → Tag) (p : Nat) (S : LS) : Prop := ∃ A0 c0 A1 c1 A2 c2 At ct bs, RefAt k w g p S A0 c0 A1 c1 A2 c2 At ct bs
theorem RefIs.move {k : Nat} {w w1 : World} {g g1 : Nat → Tag} {p : Nat} {S : LS} {T : Tag → Prop} (h : RefIs k w g p S) (ho : Only T g w w1) (he : Ext w.heap.size g g1) (h0 : ¬ T .data) (h1 : ∀ t, TR k t → ¬ T t) : RefIs k w1 g1 p S := by
  obtain ⟨A0, c0, A1, c1, A2, c2, At, ct, bs, h⟩ := h
  exact ⟨A0, c0, A1, c1, A2, c2, At, ct, bs, ho.blk h.blk (by rw [h.tag]; exact h1 _ rfl), h.l0, h.l1, h.l2, h.picks.move ho he h0, h.ticks.move ho he h0, h.draws.move ho he h0,
    h.tasks.move rfl ho he (h1 _ rfl), fun i hi => (h.each i hi).move ho he h0 (h1 _ rfl) (h1 _ rfl), (he p (blk_lt h.blk)).trans h.tag⟩
theorem waitsF_len (S : LS) : (waitsF S).length = S.tasks.length := List.length_map _
theorem waitsF_get (S : LS) (i : Nat) : (waitsF S).getD i 0 = if i < S.tasks.length then (taskF S i).wait else 0 := by
  unfold waitsF taskF
  by_cases h : i < S.tasks.length
  · simp [List.getD_eq_getElem?_getD, h]
  · rw [if_neg h]; simp [List.getD_eq_getElem?_getD, List.getElem?_eq_none (Nat.le_of_not_lt h)]
end Go.Proofs.Ytompgphlinjglaa.P
