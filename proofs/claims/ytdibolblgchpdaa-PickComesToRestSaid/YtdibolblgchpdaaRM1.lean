/- A map of integers to true that a call makes: a set. -/
import Derived.Test.YtdibolblgchpdaaRP0
import Derived.MapKept
import Derived.WideMake
import Derived.RangeFuncRecord
namespace Go.Proofs.Ytdibolblgchpdaa.P
open Go.RowKit Go.Proofs.YtdibolblgchpdaaW.PrintWords Go.Proofs.YtdibolblgchpdaaW.PrintLast Go.Proofs.YtdibolblgchpdaaW.PrintMore
set_option linter.unusedVariables false
set_option linter.unusedSimpArgs false
/-- The block b is a map that holds true at each of S. -/
def SetM (W : World) (b : Nat) (S : List Int) : Prop := ∃ es clock, W.heap[b]? = some (.map es clock) ∧ es.toList.map (fun e => (e.key, e.val)) = S.map (fun x => (Value.int .i64 x, Value.bool true))
theorem SetM.made (W : World) : SetM (W.alloc (.map #[] 0)) W.heap.size [] := ⟨#[], 0, World.alloc_heap_new W _, rfl⟩
theorem SetM.move {W W' : World} {b : Nat} {S : List Int} (h : SetM W b S) (hb : W'.heap[b]? = W.heap[b]?) : SetM W' b S := by
  obtain ⟨es, clock, h1, h2⟩ := h
  exact ⟨es, clock, hb.trans h1, h2⟩
theorem SetM.lt {W : World} {b : Nat} {S : List Int} (h : SetM W b S) : b < W.heap.size := by
  obtain ⟨es, clock, h1, h2⟩ := h
  exact (Array.getElem?_eq_some_iff.1 h1).1
theorem find_set (x : Int) : ∀ (es : List MapEntry) (S : List Int) (i : Nat), es.map (fun e => (e.key, e.val)) = S.map (fun y => (Value.int .i64 y, Value.bool true)) →
    (x ∉ S ∧ Instr.findNow (.int .i64) (.int .i64 x) es i = some none) ∨ (x ∈ S ∧ ∃ j e, es[j]? = some e ∧ e.key = .int .i64 x ∧ e.val = .bool true ∧ Instr.findNow (.int .i64) (.int .i64 x) es i = some (some (i + j, .bool true)))
  | [], S, i, h => by
    cases S with
    | nil => exact .inl ⟨by simp, rfl⟩
    | cons y S => simp at h
  | e :: es, S, i, h => by
    cases S with
    | nil => simp at h
    | cons y S =>
      simp only [List.map_cons, List.cons.injEq, Prod.mk.injEq] at h
      obtain ⟨⟨hk, hv⟩, ht⟩ := h
      by_cases hx : x = y
      · subst hx
        refine .inr ⟨by simp, 0, e, rfl, hk, hv, ?_⟩
        unfold Instr.findNow
        simp [Instr.sameNow, hk, hv]
      · have e1 : Instr.findNow (.int .i64) (.int .i64 x) (e :: es) i = Instr.findNow (.int .i64) (.int .i64 x) es (i + 1) := by
          have hb : (x == y) = false := by simpa using hx
          conv => lhs; unfold Instr.findNow
          simp only [Instr.sameNow, hk, if_true, hb]
        rcases find_set x es S (i + 1) ht with ⟨h1, h2⟩ | ⟨h1, j, e', h2, h3, h4, h5⟩
        · exact .inl ⟨by simp [hx, h1], e1.trans h2⟩
        · exact .inr ⟨by simp [h1], j + 1, e', by simpa using h2, h3, h4, by rw [e1, h5]; congr 3; omega⟩
theorem check_key (b : Bool) (x : Int) (w : World) : (Instr.checkKey b 10000 3 (.int .i64 x)).run Try.prog w = .ok () w := by
  show (Instr.checkKey b (9999 + 1) 3 (.int .i64 x)).run Try.prog w = .ok () w
  unfold Instr.checkKey
  rw [Sem.run_bind, run_underlying Try.underlying3 w]
  rfl
theorem SetM.lookup {W : World} {b : Nat} {S : List Int} (h : SetM W b S) (x : Int) : (Instr.lookup 92 (.map (some b)) (.int .i64 x) false).run Try.prog W = .ok (.bool (decide (x ∈ S))) W := by
  obtain ⟨es, clock, h1, h2⟩ := h
  have hz : (zeroValue 4).run Try.prog W = .ok (.bool false) W := by kernel_rfl
  have hu : Try.prog.underlying 92 = some (.map 3 4) := Try.underlying92
  unfold Instr.lookup
  rcases find_set x es.toList S 0 h2 with ⟨hn, hf⟩ | ⟨hm, j, e, _, _, _, hf⟩
  · have hk := MapKept.run_findKey (P := Try.prog) (w := W) (kt := 3) Try.underlying3 hf
    simp [Sem.run_bind, run_underlying hu, MapKept.run_getObj_map h1, check_key, hk, hz, hn, Result.andThen]
  · have hk := MapKept.run_findKey (P := Try.prog) (w := W) (kt := 3) Try.underlying3 hf
    simp [Sem.run_bind, run_underlying hu, MapKept.run_getObj_map h1, check_key, hk, hm, Result.andThen]
theorem grown_map {W : World} {b : Nat} (hlt : b < W.heap.size) (o : Obj) : W.grownBy { W with heap := W.heap.setIfInBounds b o } (some b) :=
  ⟨rfl, rfl, rfl, by simp, fun i _ hi => Array.getElem?_setIfInBounds_ne (fun e => hi (by rw [e]))⟩
theorem SetM.len {W : World} {b : Nat} {S : List Int} (h : SetM W b S) (ty : TypeId) : (Builtin.len_ #[92] ty #[.map (some b)]).run Try.prog W = .ok (.int .i64 S.length) W := by
  obtain ⟨es, clock, h1, h2⟩ := h
  have hl : es.size = S.length := by
    have := congrArg List.length h2
    simpa using this
  have hu : Try.prog.underlying 92 = some (.map 3 4) := Try.underlying92
  simp [Builtin.len_, Sem.run_bind, MapKept.run_getObj_map h1, hl, Result.andThen, run_underlying hu]
  rfl
theorem SetM.update {W : World} {b : Nat} {S : List Int} (h : SetM W b S) (x : Int) : ∃ W', (Instr.mapUpdate 92 (.map (some b)) (.int .i64 x) (.bool true)).run Try.prog W = .ok () W' ∧ SetM W' b (if x ∈ S then S else S ++ [x]) ∧ W.grownBy W' (some b) := by
  obtain ⟨es, clock, h1, h2⟩ := h
  have hlt : b < W.heap.size := (Array.getElem?_eq_some_iff.1 h1).1
  have hu : Try.prog.underlying 92 = some (.map 3 4) := Try.underlying92
  rcases find_set x es.toList S 0 h2 with ⟨hn, hf⟩ | ⟨hm, j, e, hj, hk1, hv1, hf⟩
  · have hk := MapKept.run_findKey (P := Try.prog) (w := W) (kt := 3) Try.underlying3 hf
    unfold Instr.mapUpdate
    simp only [Sem.run_bind, run_underlying hu, MapKept.run_getObj_map h1, check_key, hk, Result.andThen, MapKept.run_setObj_map _ h1]
    refine ⟨_, rfl, ⟨_, _, Array.getElem?_setIfInBounds_self_of_lt hlt, ?_⟩, grown_map hlt _⟩
    rw [if_neg hn]
    simp [h2]
  · have hk := MapKept.run_findKey (P := Try.prog) (w := W) (kt := 3) Try.underlying3 hf
    have hj2 : es[0 + j]? = some e := by rw [Nat.zero_add]; simpa using hj
    have hst : (Instr.keyThatStays (.int .i64 x) (.int .i64 x)).run Try.prog W = .ok (.int .i64 x) W := by
      unfold Instr.keyThatStays
      rw [if_pos (by simp [Instr.sameBits])]
      rfl
    unfold Instr.mapUpdate
    have hkk : ((es[0 + j]?).map (·.key)).getD (.int .i64 x) = .int .i64 x := by rw [hj2]; exact hk1
    simp only [Sem.run_bind, run_underlying hu, MapKept.run_getObj_map h1, check_key, hk, Result.andThen, hkk, hst, MapKept.run_setObj_map _ h1]
    refine ⟨_, rfl, ⟨_, _, Array.getElem?_setIfInBounds_self_of_lt hlt, ?_⟩, grown_map hlt _⟩
    rw [if_pos hm, ← h2]
    refine List.ext_getElem? (fun i => ?_)
    rw [List.getElem?_map, List.getElem?_map, Array.getElem?_toList, Array.getElem?_modify, Array.getElem?_toList]
    split
    · rename_i e1
      subst e1
      rw [hj2]
      simp [hk1, hv1]
    · rfl
end Go.Proofs.Ytdibolblgchpdaa.P
