/- Contract, proved by hand: behind (a version behind a job). -/
import Derived.Test.YtdibolblgchpdaaRB1
import Derived.Deep.RegionHeld3
import Derived.Deep.DeepCutAuto
import Derived.Deep.RegionLaw
namespace Go.Proofs.Ytdibolblgchpdaa.P
open Go.RowKit Go.Proofs.YtdibolblgchpdaaW.PrintWords Go.Proofs.YtdibolblgchpdaaW.PrintLast Go.Proofs.YtdibolblgchpdaaW.PrintMore
attribute [local go_sem] Oper.semAt_some
attribute [local go_sem high] leqS gtrS geqS
set_option linter.unusedVariables false
set_option linter.unusedSimpArgs false
/-- What stands in memory while behind is at work: its boxes and what is made. -/
structure BSt (w : World) (p4 p5 p8 R q : Nat) (V J : Array Value) (L : Nat → List S44) (W : World) : Prop where
  below : Below w.heap.size w W
  b4 : W.heap[p4]? = some (.cells V 24 (0, 0))
  b5 : W.heap[p5]? = some (.cells J 33 (0, 0))
  b8 : W.heap[p8]? = some (.cells #[.slice none 0 0] 24 (0, 0))
  rows : ∃ vs f, OutM w.heap.size R q W L vs f
  n4 : p4 ≠ R
  n5 : p5 ≠ R
  n8 : p8 ≠ R
  nR : w.heap.size ≤ R
section
variable {w W W1 : World} {p4 p5 p8 R q : Nat} {V J : Array Value} {L : Nat → List S44}
theorem BSt.next (h : BSt w p4 p5 p8 R q V J L W) (hb : Below W.heap.size W W1) : BSt w p4 p5 p8 R q V J L W1 := by
  obtain ⟨vs, f, h5⟩ := h.rows
  exact ⟨below_step h.below hb, blk_below h.b4 hb, blk_below h.b5 hb, blk_below h.b8 hb, ⟨vs, f, h5.below hb⟩, h.n4, h.n5, h.n8, h.nR⟩
theorem BSt.name (h : BSt w p4 p5 p8 R q V J L W) : ∃ X, X = W ∧ BSt w p4 p5 p8 R q V J L X := ⟨W, rfl, h⟩
theorem BSt.put {i : Nat} {vs : Nat → Value} {f : Nat → Nat} {v1 : Value} {l1 : List S44} (h : BSt w p4 p5 p8 R q V J L W) (ho : OutM w.heap.size R q W L vs f) (hi : i < 7)
    (hR : Kd.R k44 44 W1 w.heap.size (fun b => tagN W f i b = i) v1 l1) (hg : W.grownBy W1 (vs i).ownBlock) : BSt w p4 p5 p8 R q V J (fun k => if k = i then l1 else L k) (W1.setCell ⟨R, i, none⟩ v1) := by
  have hk : ∀ {b t : Nat} {cs : Array Value}, W.heap[b]? = some (.cells cs t (0, 0)) → t ≠ 44 → b ≠ R → (W1.setCell ⟨R, i, none⟩ v1).heap[b]? = some (.cells cs t (0, 0)) := fun hb ht hn =>
    blk_far ((hg.block _ (blk_lt hb) (Ne.symm (ho.ne hi hb ht))).trans hb) (p := ⟨R, i, none⟩) hn v1
  refine ⟨?_, hk h.b4 (by decide) h.n4, hk h.b5 (by decide) h.n5, hk h.b8 (by decide) h.n8, ⟨_, _, ho.put hi hR hg⟩, h.n4, h.n5, h.n8, h.nR⟩
  refine below_set (j := i) (v := v1) (h.below.grown hg h.below.size (fun k e => ?_)) h.nR
  exact ((Kd.R_bound (ho.each i hi)).1 k e).2.1
end
theorem bst_start (w : World) (V J : Array Value) : BSt w w.heap.size (w.heap.size + 1) (w.heap.size + 1 + 1) (w.heap.size + 1 + 1 + 1) (w.heap.size + 1 + 1 + 1 + 1) V J (fun _ => [])
    (((((w.alloc (.cells V 24)).alloc (.cells J 33)).alloc (.cells #[.slice none 0 0] 24)).alloc (.cells #[.slice none 0 0, .slice none 0 0, .slice none 0 0, .slice none 0 0, .slice none 0 0, .slice none 0 0, .slice none 0 0] 42)).alloc (.cells #[.slice (some ⟨w.heap.size + 1 + 1 + 1, 0, none⟩) 7 7] 24)) := by
  have h1 := blk_new w (.cells V 24)
  have h2 := blk_new (w.alloc (.cells V 24)) (.cells J 33)
  have h3 := blk_new ((w.alloc (.cells V 24)).alloc (.cells J 33)) (.cells #[.slice none 0 0] 24)
  have h4 := blk_new (((w.alloc (.cells V 24)).alloc (.cells J 33)).alloc (.cells #[.slice none 0 0] 24)) (.cells #[.slice none 0 0, .slice none 0 0, .slice none 0 0, .slice none 0 0, .slice none 0 0, .slice none 0 0, .slice none 0 0] 42)
  have h5 := blk_new ((((w.alloc (.cells V 24)).alloc (.cells J 33)).alloc (.cells #[.slice none 0 0] 24)).alloc (.cells #[.slice none 0 0, .slice none 0 0, .slice none 0 0, .slice none 0 0, .slice none 0 0, .slice none 0 0, .slice none 0 0] 42)) (.cells #[.slice (some ⟨w.heap.size + 1 + 1 + 1, 0, none⟩) 7 7] 24)
  simp only [World.size_alloc] at h2 h3 h4 h5
  exact ⟨below_alloc (below_alloc (below_alloc (below_alloc (below_alloc (Below.refl _ _) _) _) _) _) _, blk_alloc (blk_alloc (blk_alloc (blk_alloc h1 _) _) _) _, blk_alloc (blk_alloc (blk_alloc h2 _) _) _, blk_alloc (blk_alloc h3 _) _,
    ⟨fun _ => .slice none 0 0, fun _ => 0, h5, blk_alloc h4 _, fun k hk => Kd.R_nil _ _ _ _ _⟩, by omega, by omega, by omega, by omega⟩
theorem bl_name {s : Nat} {W X : World} (h : Below s W X) : ∃ Y, Y = X ∧ Below s W Y := ⟨X, rfl, h⟩
theorem grd {W W1 : World} {r : Option Nat} (h : W.drew.grownBy W1 r) : W.grownBy W1 r := ⟨h.os, h.tape, h.output, h.size, h.block⟩
theorem outA_len {ls : List (List S44)} {ins : List S63} (hfl : ls.flatten.length ≤ 1024) (i j k : Nat) : (outA ls ins i j k).length ≤ 1024 := by
  have h4 : ∀ k, (ls.getD k []).length ≤ ls.flatten.length := by
    intro k
    by_cases hlt : k < ls.length
    · have hg : ls.getD k [] = ls[k] := by simp [hlt]
      rw [hg]
      have := congrArg List.length (congrArg List.flatten (List.take_append_drop k ls))
      rw [List.drop_eq_getElem_cons hlt, List.flatten_append, List.flatten_cons, List.length_append, List.length_append] at this
      omega
    · have hg : ls.getD k [] = [] := by simp [Nat.le_of_not_lt hlt]
      rw [hg]; simp
  unfold outA
  split
  · exact Nat.le_trans (List.length_filter_le _ _) (Nat.le_trans (h4 k) hfl)
  · split
    · exact Nat.le_trans (List.length_filter_le _ _) (Nat.le_trans (by rw [List.length_take]; omega) (Nat.le_trans (h4 i) hfl))
    · simp
theorem acc_c : ∀ (l : List S44) (x : BAcc), (∀ t ∈ l, 1 ≤ t.f2) → x.c + l.length ≤ (l.foldl accS x).c
  | [], x, _ => by simp
  | t :: l, x, h => by
    have h1 := h t List.mem_cons_self
    have h2 := acc_c l (accS x t) (fun u hu => h u (List.mem_cons_of_mem _ hu))
    rw [List.foldl_cons, List.length_cons]
    have : (accS x t).c = x.c + t.f2 := rfl
    omega
theorem accA_pos (ls : List (List S44)) (ins : List S63) (hb : ∀ l ∈ ls, ∀ t ∈ l, 1 ≤ t.f1 ∧ t.f1 ≤ 1048576 ∧ 1 ≤ t.f2 ∧ t.f2 ≤ 65536) (hgo : goneTo ls ins ls.length ≠ []) : 1 ≤ (accA ls ins ls.length 0).c := by
  have e : accA ls ins ls.length 0 = (goneTo ls ins ls.length).foldl accS accZ := by unfold accA goneL; simp
  rw [e]
  have h1 := acc_c (goneTo ls ins ls.length) accZ (fun t ht => by
    obtain ⟨l, h1, h2⟩ := goneTo_mem ls ins _ t ht
    exact (hb l h1 t h2).2.2.1)
  have h2 := List.length_pos_iff.2 hgo
  have h3 : accZ.c = 0 := rfl
  omega
/-- How many tables at the front begin below a key. -/
def lessN (a : ByteArray) : List S44 → Nat
  | [] => 0
  | t :: l => if Op.bytesLess t.f3.toList a.toList = true then 1 + lessN a l else 0
theorem lessN_step (a : ByteArray) (l : List S44) (m : Nat) (h : m < l.length) : lessN a (l.drop m) = if Op.bytesLess l[m].f3.toList a.toList = true then 1 + lessN a (l.drop (m + 1)) else 0 := by
  rw [List.drop_eq_getElem_cons h]
  rfl
theorem make7 (W : World) : (Instr.makeSlice 22 (.int .i64 7) (.int .i64 7)).run Try.prog W = .ok (.slice (some ⟨W.heap.size, 0, none⟩) 7 7) (W.alloc (.cells ((List.range 7).map fun _ => Value.slice none 0 0).toArray 42)) := by
  obtain ⟨i0, hi, hzz⟩ := Option.map_eq_some_iff.1 info42
  simp only [Prod.mk.injEq] at hzz
  obtain ⟨hz0, hz1, hz2⟩ := hzz
  have hr := run_make (P := Try.prog) W 22 42 i0 _ Try.underlying22 hi hz0 .i64 .i64 (7 : Int) (7 : Int) (by omega) (by omega) (by rw [hz2]; decide) (by omega)
  rw [hz1] at hr
  have e : madeCells (Value.slice none 0 0).cells ((7 : Int).toNat * 1) = ((List.range 7).map fun _ => Value.slice none 0 0).toArray := by kernel_rfl
  rw [e] at hr
  exact hr
def findBlock (id : Nat) : Code → Option Code
  | .seq a b => match findBlock id a with | some c => some c | none => findBlock id b
  | .cond _ a b => match findBlock id a with | some c => some c | none => findBlock id b
  | .block k c => if k = id then some (.block k c) else findBlock id c
  | .loop c => findBlock id c
  | _ => none
set_option maxHeartbeats 16000000 in
set_option maxRecDepth 100000 in
theorem behind_levels (Q : Exit → Act → World → Prop) (code : Code) (hcode : findBlock 0 (Try.f19.body.getD .skip) = some code) (A : Option Addr) (c : Nat) (ls : List (List S44)) (n : Nat) (AI : Option Addr) (ci : Nat) (ins : List S63) (bt : Bool) (number fewer : Int) (w W0 : World) (p5 p8 R q : Nat) (J : Array Value) (HJ : Aside0 (#[.int .i64 n, .slice AI ins.length ci, .bool bt] = J)) (hC : Kd.C (Kd.slice 44 k44) w A ls.length ls) (hI : Kd.C k63 w AI ins.length ins)
    (hls : ls.length ≤ 7) (hfl : ls.flatten.length ≤ 1024) (hb : ∀ l ∈ ls, ∀ t ∈ l, 1 ≤ t.f1 ∧ t.f1 ≤ 1048576 ∧ 1 ≤ t.f2 ∧ t.f2 ≤ 65536) (hins : ins.length ≤ 4096)
    (HS : Aside0 (BSt w w.heap.size p5 p8 R q #[.slice A ls.length c] J (outA ls ins 0 0) W0))
    (HP : Aside0 (∀ c (a : Act) (N : Option Tmp) (v : Value) w, Q (.panic c) (a.put N v) w → Q (.panic c) a w)) (hQ : Aside0 (∀ (u15 u16 u18 u19 u21 u34 u35 u36 u37 u38 u39 u40 u41 u42 u43 u44 u45 u46 u47 u48 u49 u50 u51 u52 u53 u54 u55 u56 u57 u58 u59 u60 u61 u62 u63 u64 u65 u66 u67 u68 u69 u70 u71 u72 u73 u74 u75 u76 u77 u78 u79 u80 u81 u82 u83 u84 u85 u86 u87 u88 u89 u90 u91 u92 u93 u94 u95 u96 u97 u98 u99 u100 u101 u102 u103 u104 u105 u106 u107 u108 : Value) (x : BAcc) (W : World), x = accA ls ins ls.length 0 → BSt w w.heap.size p5 p8 R q #[.slice A ls.length c] J (outA ls ins ls.length 0) W → Q .normal { tmps := #[.agg #[.slice A ls.length c], .agg #[.int .i64 n, .slice AI ins.length ci, .bool bt], .int .i64 number, .int .i64 fewer, .pointer (some ⟨w.heap.size, 0, none⟩), .pointer (some ⟨p5, 0, none⟩), undef, undef, .pointer (some ⟨p8, 0, none⟩), .bool false, .pointer (some ⟨q, 0, none⟩), .int .i64 x.c, .int .i64 x.s, .string x.a, .string x.b, u15, u16, undef, u18, u19, undef, u21, undef, undef, undef, undef, undef, .slice (some ⟨R, 0, none⟩) 7 7, .agg #[.slice (some ⟨R, 0, none⟩) 7 7], .pointer (some ⟨w.heap.size, 0, none⟩), .slice A ls.length c, .int .i64 ls.length, .int .i64 ls.length, .bool false, u34, u35, u36, u37, u38, u39, u40, u41, u42, u43, u44, u45, u46, u47, u48, u49, u50, u51, u52, u53, u54, u55, u56, u57, u58, u59, u60, u61, u62, u63, u64, u65, u66, u67, u68, u69, u70, u71, u72, u73, u74, u75, u76, u77, u78, u79, u80, u81, u82, u83, u84, u85, u86, u87, u88, u89, u90, u91, u92, u93, u94, u95, u96, u97, u98, u99, u100, u101, u102, u103, u104, u105, u106, u107, u108, undef, undef, undef, undef, undef, undef, undef, undef, undef, undef, undef, undef, undef, undef, undef, undef, undef, undef, undef, undef, undef, undef, undef, undef, undef, undef, undef, undef, undef, undef, undef, undef, undef, undef, undef, undef, undef, undef, undef, undef, undef, undef, undef, undef, undef, undef, undef, undef, undef, undef, undef, undef, undef, undef, undef, undef, undef, undef, undef, undef, undef, undef, undef, undef, undef, undef, undef, undef, undef, undef, undef, undef, undef, undef, undef, undef, undef, undef, undef, undef, undef, undef, undef, undef, undef, undef, undef, undef, undef, undef, undef, undef, undef, undef, undef, undef, undef, undef, undef, undef, undef, undef, undef, undef], defers := [] } W)) :
    Code.wp Try.prog code Q { tmps := #[.agg #[.slice A ls.length c], .agg #[.int .i64 n, .slice AI ins.length ci, .bool bt], .int .i64 number, .int .i64 fewer, .pointer (some ⟨w.heap.size, 0, none⟩), .pointer (some ⟨p5, 0, none⟩), undef, undef, .pointer (some ⟨p8, 0, none⟩), .bool false, .pointer (some ⟨q, 0, none⟩), .int .i64 0, .int .i64 0, .string ⟨#[]⟩, .string ⟨#[]⟩, undef, undef, undef, undef, undef, undef, undef, undef, undef, undef, undef, undef, .slice (some ⟨R, 0, none⟩) 7 7, .agg #[.slice (some ⟨R, 0, none⟩) 7 7], .pointer (some ⟨w.heap.size, 0, none⟩), .slice A ls.length c, .int .i64 ls.length, .int .i64 0, undef, undef, undef, undef, undef, undef, undef, undef, undef, undef, undef, undef, undef, undef, undef, undef, undef, undef, undef, undef, undef, undef, undef, undef, undef, undef, undef, undef, undef, undef, undef, undef, undef, undef, undef, undef, undef, undef, undef, undef, undef, undef, undef, undef, undef, undef, undef, undef, undef, undef, undef, undef, undef, undef, undef, undef, undef, undef, undef, undef, undef, undef, undef, undef, undef, undef, undef, undef, undef, undef, undef, undef, undef, undef, undef, undef, undef, undef, undef, undef, undef, undef, undef, undef, undef, undef, undef, undef, undef, undef, undef, undef, undef, undef, undef, undef, undef, undef, undef, undef, undef, undef, undef, undef, undef, undef, undef, undef, undef, undef, undef, undef, undef, undef, undef, undef, undef, undef, undef, undef, undef, undef, undef, undef, undef, undef, undef, undef, undef, undef, undef, undef, undef, undef, undef, undef, undef, undef, undef, undef, undef, undef, undef, undef, undef, undef, undef, undef, undef, undef, undef, undef, undef, undef, undef, undef, undef, undef, undef, undef, undef, undef, undef, undef, undef, undef, undef, undef, undef, undef, undef, undef, undef, undef, undef, undef, undef, undef, undef, undef], defers := [] } W0 := by
  conv at hcode => lhs; whnf
  injection hcode with hcode
  subst hcode
  have HC := Aside0.mk hC
  have HI := Aside0.mk hI
  have HFL := Aside0.mk hfl
  have HBD := Aside0.mk hb
  clear hC hI hb
  have hlm : ls.length ≤ 9223372036854775807 := by omega
  go_wp2
  go_loopg [11, 12, 13, 14, 32] ls.length (fun kq v11 v12 v13 v14 v32 w' => ∃ (i : Nat) (x : BAcc), v32 = .int .i64 i ∧ v11 = .int .i64 x.c ∧ v12 = .int .i64 x.s ∧ v13 = .string x.a ∧ v14 = .string x.b ∧ i ≤ ls.length ∧ Aside0 (kq = ls.length - i) ∧ Aside0 (x = accA ls ins i 0) ∧ Aside0 (BSt w w.heap.size p5 p8 R q #[.slice A ls.length c] J (outA ls ins i 0) w'))
  case atStart => exact ⟨0, accZ, rfl, rfl, rfl, rfl, rfl, Nat.zero_le _, ⟨rfl⟩, ⟨accA_zero.symm⟩, HS⟩
  case round =>
    clear HS
    obtain ⟨i, x, rfl, rfl, rfl, rfl, rfl, hi, HK, HX, HS⟩ := hrel
    by_cases hlt : i < ls.length
    · obtain ⟨k1, rfl⟩ : ∃ k1, gk = k1 + 1 := ⟨gk - 1, by have := HK.out; omega⟩
      have HK1 := Aside0.mk (show k1 = ls.length - (i + 1) by have := HK.out; omega)
      obtain ⟨ad, A1, n1, ea, x0, hl1, hi1⟩ := at_L3 HC.out (i : Int) (Int.natCast_nonneg _) (by omega)
      subst ea
      rw [Int.toNat_natCast] at x0
      have hLg : rd_L3 ls (i : Int) = ls.getD i [] := by simp only [rd_L3, Int.toNat_natCast]
      obtain ⟨l, hl⟩ : ∃ l, ls.getD i [] = l := ⟨_, rfl⟩
      rw [hLg, hl] at x0 hl1 hi1
      have HLE := Aside0.mk hl
      have hlm1 : l.length ≤ 9223372036854775807 := hi1.2.1
      have HI1 := Aside0.mk hi1
      have y0 := pw_cell_below HS.out.below x0
      clear hLg hl HK hi1 x0
      go_wp2
      go_loopg [11, 12, 13, 14, 39] l.length (fun kq v11 v12 v13 v14 v39 w' => ∃ (j : Nat) (x : BAcc), v39 = .int .i64 j ∧ v11 = .int .i64 x.c ∧ v12 = .int .i64 x.s ∧ v13 = .string x.a ∧ v14 = .string x.b ∧ j ≤ l.length ∧ Aside0 (kq = l.length - j) ∧ Aside0 (x = accA ls ins i j) ∧ Aside0 (BSt w w.heap.size p5 p8 R q #[.slice (some ad) ls.length c] J (outA ls ins i j) w'))
      case atStart => exact ⟨0, x, rfl, rfl, rfl, rfl, rfl, Nat.zero_le _, ⟨rfl⟩, HX, HS⟩
      case round =>
        clear HX HS y0
        obtain ⟨j, x, rfl, rfl, rfl, rfl, rfl, hj, HKj, HX, HS⟩ := hrel
        by_cases hjl : j < l.length
        · obtain ⟨k2, rfl⟩ : ∃ k2, gk = k2 + 1 := ⟨gk - 1, by have := HKj.out; omega⟩
          have HK2 := Aside0.mk (show k2 = l.length - (j + 1) by have := HKj.out; omega)
          obtain ⟨wl, rfl, hwl⟩ := HS.out.name
          obtain ⟨ad2, ea2, y0, y1, y2, y3, y4⟩ := at_T44 (Kd.C_below HI1.out hwl.below) (j : Int) (Int.natCast_nonneg _) (by omega)
          subst ea2
          rw [Int.toNat_natCast] at y0 y1 y2 y3 y4
          have htg := rd44_getElem l j hjl
          obtain ⟨t, ht⟩ : ∃ t, rd_T44 l (j : Int) = t := ⟨_, rfl⟩
          rw [ht] at y0 y1 y2 y3 y4 htg
          have HTG := Aside0.mk htg
          have him : ins.length ≤ 9223372036854775807 := by omega
          clear ht HKj htg
          go_upto_region 11 with (fail)
          obtain ⟨vs, f, ho⟩ := hwl.rows
          have HTN := Aside0.mk (show (vs i).ownBlock ≠ some wl.heap.size from fun e => by have := ((Kd.R_bound (ho.each i (by omega))).1 _ e).2.2.1; omega)
          have HVS := Aside0.mk (ho.below (below_alloc (Below.refl _ _) (.cells #[.int .i64 t.f0, .int .i64 t.f1, .int .i64 t.f2, .string t.f3, .string t.f4] 44)))
          clear ho
          have HS1 := Aside0.mk (hwl.next (below_alloc (Below.refl _ _) (.cells #[.int .i64 t.f0, .int .i64 t.f1, .int .i64 t.f2, .string t.f3, .string t.f4] 44)))
          have HT1 := Aside0.mk (blk_new wl (.cells #[.int .i64 t.f0, .int .i64 t.f1, .int .i64 t.f2, .string t.f3, .string t.f4] 44))
          have hJ5 : (wl.alloc (.cells #[.int .i64 t.f0, .int .i64 t.f1, .int .i64 t.f2, .string t.f3, .string t.f4] 44)).cell? ⟨p5, 1, none⟩ = some (.slice AI ins.length ci) := by rw [blk_cell HS1.out.b5, ← HJ.out]; rfl
          obtain ⟨T, hT⟩ : ∃ T, wl.heap.size = T := ⟨_, rfl⟩
          rw [hT] at HT1 HTN ⊢
          clear y0 y1 y2 y3 y4 hwl hT HS
          generalize wl.alloc (.cells #[.int .i64 t.f0, .int .i64 t.f1, .int .i64 t.f2, .string t.f3, .string t.f4] 44) = W1 at HS1 HT1 HVS hJ5 ⊢
          go_wp2
          go_loopg [19, 46] ins.length (fun kq v19 v46 w' => ∃ (m : Nat) (g : Bool), v19 = .bool g ∧ v46 = .int .i64 m ∧ m ≤ ins.length ∧ Aside0 (g = (ins.take m).any fun a => (a.f0 == (i : Int)) && (a.f1 == t.f0)) ∧ Aside0 (kq = ins.length - m) ∧ Aside0 (Below W1.heap.size W1 w'))
          case atStart => exact ⟨0, false, rfl, rfl, Nat.zero_le _, ⟨rfl⟩, ⟨rfl⟩, ⟨Below.refl _ _⟩⟩
          case round =>
            clear hJ5
            obtain ⟨m, g, rfl, rfl, hm, HG, HKm, HBm⟩ := hrel
            have r0 := pw_cell_below HBm.out (blkc HT1.out 0 rfl).1
            by_cases hml : m < ins.length
            · obtain ⟨k3, rfl⟩ : ∃ k3, gk = k3 + 1 := ⟨gk - 1, by have := HKm.out; omega⟩
              have HK3 := Aside0.mk (show k3 = ins.length - (m + 1) by have := HKm.out; omega)
              obtain ⟨ad3, ea3, z0, z1⟩ := at_T63 (Kd.C_below (Kd.C_below HI.out HS1.out.below) HBm.out) (m : Int) (Int.natCast_nonneg _) (by omega)
              subst ea3
              rw [Int.toNat_natCast] at z0 z1
              have hag : rd_T63 ins (m : Int) = ins[m] := by simp only [rd_T63, Int.toNat_natCast]; simp [hml]
              have HGN := Aside0.mk (goneB_take ins i t m hml)
              obtain ⟨a, ha⟩ : ∃ a, rd_T63 ins (m : Int) = a := ⟨_, rfl⟩
              rw [← hag, ha] at HGN
              rw [ha] at z0 z1
              rw [← HG.out] at HGN
              obtain ⟨b1, hb1⟩ : ∃ b, (a.f0 == (i : Int)) = b := ⟨_, rfl⟩
              obtain ⟨b2, hb2⟩ : ∃ b, (a.f1 == t.f0) = b := ⟨_, rfl⟩
              rw [hb1, hb2] at HGN
              obtain ⟨wm, rfl, hbm⟩ := bl_name HBm.out
              have r1 : (wm.alloc (.cells #[.int .i64 a.f0, .int .i64 a.f1] 63)).cell? ⟨T, 0, none⟩ = some (.int .i64 t.f0) := pw_cell_below (below_alloc (Below.refl _ _) _) r0
              clear ha hag HG HKm hbm
              cases g
              · cases b1
                · go_wp2
                  go_roundg k3
                  case measure => omega
                  case rel => exact ⟨m + 1, false, rfl, by first | rfl | (congr 1; omega) | (simp; done), hml, ⟨HGN.out.symm⟩, HK3, ⟨below_alloc HBm.out _⟩⟩
                · cases b2
                  · go_wp2
                    go_roundg k3
                    case measure => omega
                    case rel => exact ⟨m + 1, false, rfl, by first | rfl | (congr 1; omega) | (simp; done), hml, ⟨HGN.out.symm⟩, HK3, ⟨below_alloc HBm.out _⟩⟩
                  · go_wp2
                    go_roundg k3
                    case measure => omega
                    case rel => exact ⟨m + 1, true, rfl, by first | rfl | (congr 1; omega) | (simp; done), hml, ⟨HGN.out.symm⟩, HK3, ⟨below_alloc HBm.out _⟩⟩
              · go_wp2
                go_roundg k3
                case measure => omega
                case rel => exact ⟨m + 1, true, rfl, by first | rfl | (congr 1; omega) | (simp; done), hml, ⟨HGN.out.symm⟩, HK3, ⟨below_alloc HBm.out _⟩⟩
            · obtain rfl : m = ins.length := by omega
              have HGF := Aside0.mk (show g = goneB ins i t by have := HG.out; rw [List.take_length] at this; exact this)
              have HS2 := Aside0.mk (HS1.out.next HBm.out)
              have HT2 := Aside0.mk (blk_below HT1.out HBm.out)
              clear HG HKm r0 HT1
              cases g
              · go_upto_region 17 with (fail)
                obtain ⟨wk, rfl, hwk⟩ := HS2.out.name
                have ho := HVS.out.below HBm.out
                obtain ⟨Ak, ck, ev, hck, hCk⟩ := ho.val (k := i) (by omega)
                have e0 := ho.cellq
                have e1 := ho.cellR (k := i) (by omega)
                have hhere := Kd.R_below (ho.here (i := i) (by omega)) (below_drew (Below.refl wk.heap.size wk))
                obtain ⟨ol, hol⟩ : ∃ o, outA ls ins i j i = o := ⟨_, rfl⟩
                obtain ⟨ll, hll⟩ : ∃ n, ol.length = n := ⟨_, rfl⟩
                rw [hol] at hhere ev hck hCk
                rw [hll] at ev hck hCk
                rw [ev] at e1 hhere
                have HO := Aside0.mk hhere
                have HBW := Aside0.mk (below_drew hwk.below)
                have HBZ := Aside0.mk (show w.heap.size ≤ wk.drew.heap.size from hwk.below.size)
                have EV := Aside0.mk ev
                have HOL := Aside0.mk (And.intro hol hll)
                have HRW := Aside0.mk (fun (w1 : World) (h : wk.grownBy w1 (vs i).ownBlock) => (h.block R (blk_lt ho.row) (Ne.symm (ho.ne (i := i) (by omega) ho.row (by decide)))).trans ho.row)
                have HQC := Aside0.mk (fun (w1 : World) (h : wk.grownBy w1 (vs i).ownBlock) => show w1.cell? ⟨q, 0, none⟩ = some (.slice (some ⟨R, 0, none⟩) 7 7) from (blkc ((h.block q (blk_lt ho.out) (Ne.symm (ho.ne (i := i) (by omega) ho.out (by decide)))).trans ho.out) 0 rfl).1)
                have HRC := Aside0.mk (fun (w1 : World) (h : wk.grownBy w1 (vs i).ownBlock) => show w1.cell? ⟨R, i, none⟩ = some (.slice Ak ll ck) by rw [← ev, blk_cell ((h.block R (blk_lt ho.row) (Ne.symm (ho.ne (i := i) (by omega) ho.row (by decide)))).trans ho.row)]; simp [show i < 7 by omega])
                have HTC := Aside0.mk (fun (w1 : World) (h : wk.grownBy w1 (vs i).ownBlock) => (h.block T (blk_lt HT2.out) (Ne.symm HTN.out)).trans HT2.out)
                have HPUT := Aside0.mk (fun (w1 : World) (v1 : Value) (h : wk.grownBy w1 (vs i).ownBlock) (hR : Kd.R k44 44 w1 w.heap.size (fun b => tagN wk f i b = i) v1 (ol ++ [t])) => hwk.put ho (i := i) (by omega) hR h)
                have HLL := Aside0.mk (show ll ≤ 1024 by rw [← hll, ← hol]; exact outA_len hfl i j i)
                have hll1 := HLL.out
                have him7 : i < 7 := by omega
                have hi7z : (i : Int) < 7 := by omega
                have hol1 : ol.length ≤ 1024 := by rw [hll]; exact HLL.out
                clear hhere ho hwk hck hCk ev hol hll HS2
                have y0 := (blkc HT2.out 0 rfl).1
                have y1 := (blkc HT2.out 1 rfl).1
                have y2 := (blkc HT2.out 2 rfl).1
                have y3 := (blkc HT2.out 3 rfl).1
                have y4 := (blkc HT2.out 4 rfl).1
                clear HT2 HS1 HVS
                refine start_ (n := 13) (S := fun w' => w'.cell? ⟨q, 0, none⟩ = some (.slice (some ⟨R, 0, none⟩) 7 7) ∧ w'.cell? ⟨R, i, none⟩ = some (.slice Ak ll ck) ∧ w'.cell? ⟨T, 0, none⟩ = some (.int .i64 t.f0) ∧ w'.cell? ⟨T, 1, none⟩ = some (.int .i64 t.f1) ∧ w'.cell? ⟨T, 2, none⟩ = some (.int .i64 t.f2) ∧ w'.cell? ⟨T, 3, none⟩ = some (.string t.f3) ∧ w'.cell? ⟨T, 4, none⟩ = some (.string t.f4)) (ds := [12]) #[false, false, false, false, false, false, false, false, false, false, false, false, false] (by kernel_rfl) rfl rfl ⟨e0, e1, y0, y1, y2, y3, y4⟩ (fun hHeld => ?_)
                refine pure_ (i := 0) (N := some 67) (v := ?_) (a' := ?_) #[true, false, false, false, false, false, false, false, false, false, false, false, false] rfl rfl (by kernel_rfl) (fun _ _ _ h => HP.out _ _ _ _ _ h) (Or.inl ⟨by rfl, ?_⟩) ?_ ?_
                rotate_left
                · intro w'
                  go_simp
                  with_reducible rfl
                rotate_left
                · simp only [Act.put, List.setIfInBounds_toArray, List.set_cons_zero, List.set_cons_succ, i64_w, i32_w]
                  rfl
                refine pure_ (i := 2) (N := some 69) (v := ?_) (a' := ?_) #[true, false, true, false, false, false, false, false, false, false, false, false, false] rfl rfl (by kernel_rfl) (fun _ _ _ h => HP.out _ _ _ _ _ h) (Or.inl ⟨by rfl, ?_⟩) ?_ ?_
                rotate_left
                · intro w'
                  go_simp
                  with_reducible rfl
                rotate_left
                · simp only [Act.put, List.setIfInBounds_toArray, List.set_cons_zero, List.set_cons_succ, i64_w, i32_w]
                  rfl
                refine pure_ (i := 3) (N := some 70) (v := ?_) (a' := ?_) #[true, false, true, true, false, false, false, false, false, false, false, false, false] rfl rfl (by kernel_rfl) (fun _ _ _ h => HP.out _ _ _ _ _ h) (Or.inl ⟨by rfl, ?_⟩) ?_ ?_
                rotate_left
                · intro w'
                  go_simp
                  with_reducible rfl
                rotate_left
                · simp only [Act.put, List.setIfInBounds_toArray, List.set_cons_zero, List.set_cons_succ, i64_w, i32_w]
                  rfl
                refine pure_ (i := 5) (N := some 72) (v := ?_) (a' := ?_) #[true, false, true, true, false, true, false, false, false, false, false, false, false] rfl rfl (by kernel_rfl) (fun _ _ _ h => HP.out _ _ _ _ _ h) (Or.inl ⟨by rfl, ?_⟩) ?_ ?_
                rotate_left
                · intro w'
                  go_simp
                  with_reducible rfl
                rotate_left
                · simp only [Act.put, List.setIfInBounds_toArray, List.set_cons_zero, List.set_cons_succ, i64_w, i32_w]
                  rfl
                refine take_ (i := 1) (N := some 68) (v := ?_) (a' := ?_) #[true, true, true, true, false, true, false, false, false, false, false, false, false] rfl rfl (by kernel_rfl) (fun _ _ _ h => HP.out _ _ _ _ _ h) (Or.inl ⟨by rfl, ?_⟩) hHeld ?_ ?_
                rotate_left
                · rintro w' ⟨s0, s1, s2, s3, s4, s5, s6⟩
                  go_simp
                  with_reducible rfl
                rotate_left
                · simp only [Act.put, List.setIfInBounds_toArray, List.set_cons_zero, List.set_cons_succ, i64_w, i32_w]
                  rfl
                refine take_ (i := 4) (N := some 71) (v := ?_) (a' := ?_) #[true, true, true, true, true, true, false, false, false, false, false, false, false] rfl rfl (by kernel_rfl) (fun _ _ _ h => HP.out _ _ _ _ _ h) (Or.inl ⟨by rfl, ?_⟩) hHeld ?_ ?_
                rotate_left
                · rintro w' ⟨s0, s1, s2, s3, s4, s5, s6⟩
                  go_simp
                  with_reducible rfl
                rotate_left
                · simp only [Act.put, List.setIfInBounds_toArray, List.set_cons_zero, List.set_cons_succ, i64_w, i32_w]
                  rfl
                refine pure_ (i := 6) (N := some 73) (v := ?_) (a' := ?_) #[true, true, true, true, true, true, true, false, false, false, false, false, false] rfl rfl (by kernel_rfl) (fun _ _ _ h => HP.out _ _ _ _ _ h) (Or.inl ⟨by rfl, ?_⟩) ?_ ?_
                rotate_left
                · intro w'
                  go_simp
                  with_reducible rfl
                rotate_left
                · simp only [Act.put, List.setIfInBounds_toArray, List.set_cons_zero, List.set_cons_succ, i64_w, i32_w]
                  rfl
                refine take_ (i := 7) (N := some 74) (v := ?_) (a' := ?_) #[true, true, true, true, true, true, true, true, false, false, false, false, false] rfl rfl (by kernel_rfl) (fun _ _ _ h => HP.out _ _ _ _ _ h) (Or.inl ⟨by rfl, ?_⟩) hHeld ?_ ?_
                rotate_left
                · rintro w' ⟨s0, s1, s2, s3, s4, s5, s6⟩
                  go_simp
                  with_reducible rfl
                rotate_left
                · simp only [Act.put, List.setIfInBounds_toArray, List.set_cons_zero, List.set_cons_succ, i64_w, i32_w]
                  rfl
                refine take_ (i := 8) (N := some 75) (v := ?_) (a' := ?_) #[true, true, true, true, true, true, true, true, true, false, false, false, false] rfl rfl (by kernel_rfl) (fun _ _ _ h => HP.out _ _ _ _ _ h) (Or.inl ⟨by rfl, ?_⟩) hHeld ?_ ?_
                rotate_left
                · rintro w' ⟨s0, s1, s2, s3, s4, s5, s6⟩
                  go_simp
                  with_reducible rfl
                rotate_left
                · simp only [Act.put, List.setIfInBounds_toArray, List.set_cons_zero, List.set_cons_succ, i64_w, i32_w]
                  rfl
                refine one_ (i := 9) (N := some 76) #[true, true, true, true, true, true, true, true, true, true, false, false, false] rfl rfl (by kernel_rfl) (by decide) (fun K hK => ?_)
                refine value_ (w1 := ?_) (v := ?_) (by rfl) rfl ?_ ?_
                rotate_left 2
                · go_simp
                  constructor
                  · rfl
                  · rfl
                refine hK.out _ _ ⟨(by first | exact pw_cell_below (below_alloc (below_drew (Below.refl _ _)) _) e0 | exact pw_cell_below (below_drew (below_alloc (Below.refl _ _) _)) e0 | exact pw_cell_below (below_alloc (Below.refl _ _) _) e0), (by first | exact pw_cell_below (below_alloc (below_drew (Below.refl _ _)) _) e1 | exact pw_cell_below (below_drew (below_alloc (Below.refl _ _) _)) e1 | exact pw_cell_below (below_alloc (Below.refl _ _) _) e1), (by first | exact pw_cell_below (below_alloc (below_drew (Below.refl _ _)) _) y0 | exact pw_cell_below (below_drew (below_alloc (Below.refl _ _) _)) y0 | exact pw_cell_below (below_alloc (Below.refl _ _) _) y0), (by first | exact pw_cell_below (below_alloc (below_drew (Below.refl _ _)) _) y1 | exact pw_cell_below (below_drew (below_alloc (Below.refl _ _) _)) y1 | exact pw_cell_below (below_alloc (Below.refl _ _) _) y1), (by first | exact pw_cell_below (below_alloc (below_drew (Below.refl _ _)) _) y2 | exact pw_cell_below (below_drew (below_alloc (Below.refl _ _) _)) y2 | exact pw_cell_below (below_alloc (Below.refl _ _) _) y2), (by first | exact pw_cell_below (below_alloc (below_drew (Below.refl _ _)) _) y3 | exact pw_cell_below (below_drew (below_alloc (Below.refl _ _) _)) y3 | exact pw_cell_below (below_alloc (Below.refl _ _) _) y3), (by first | exact pw_cell_below (below_alloc (below_drew (Below.refl _ _)) _) y4 | exact pw_cell_below (below_drew (below_alloc (Below.refl _ _) _)) y4 | exact pw_cell_below (below_alloc (Below.refl _ _) _) y4)⟩ (fun hHeld => ?_)
                clear hK K
                refine norm_ (a' := ?_) ?_ ?_
                rotate_left
                · show Act.put _ (some 76) _ = _
                  simp only [Act.put, List.setIfInBounds_toArray, List.set_cons_zero, List.set_cons_succ, i64_w, i32_w]
                  rfl
                refine one_ (i := 10) (N := some 77) #[true, true, true, true, true, true, true, true, true, true, true, false, false] rfl rfl (by kernel_rfl) (by decide) (fun K hK => ?_)
                refine Kd.R_append_step k44 (W := wk.drew) (w0 := w) w.heap.size (by rfl) (.tmp 74) (.tmp 76) 42 44 (.agg #[(.int .i64 0), (.int .i64 0), (.int .i64 0), (.string ⟨#[]⟩), (.string ⟨#[]⟩)]) 56 (by rfl) Try.underlying42 info44 rfl (by decide) (by omega) (.slice Ak ll ck) ol t [.int .i64 t.f0, .int .i64 t.f1, .int .i64 t.f2, .string t.f3, .string t.f4] (fun b => tagN wk f i b = i) (fun _ => False) (by rfl) (by rfl) (k44_mkM _ _ _ t) (fun _ h => h.elim) (tagN_new wk f i) HO.out HBW.out HBZ.out (by omega) ?_
                intro v1 w1 ho1 hb1 hg1 hat1
                obtain ⟨A9, c9, rfl⟩ := Kd.R_slice ho1
                have HR1 := Aside0.mk ho1
                have HG1 := Aside0.mk (show wk.grownBy w1 (vs i).ownBlock by rw [EV.out]; exact grd hg1)
                have hfz := blk_frozen (HRW.out w1 HG1.out) i
                have g0 := HQC.out w1 HG1.out
                have g1 := HRC.out w1 HG1.out
                have gt := HTC.out w1 HG1.out
                have g2 := (blkc gt 0 rfl).1
                have g3 := (blkc gt 1 rfl).1
                have g4 := (blkc gt 2 rfl).1
                have g5 := (blkc gt 3 rfl).1
                have g6 := (blkc gt 4 rfl).1
                clear gt
                clear ho1 hb1 hg1 hat1
                refine hK.out _ _ ⟨g0, g1, g2, g3, g4, g5, g6⟩ (fun hHeld => ?_)
                clear hK K
                refine norm_ (a' := ?_) ?_ ?_
                rotate_left
                · show Act.put _ (some 77) _ = _
                  simp only [Act.put, List.setIfInBounds_toArray, List.set_cons_zero, List.set_cons_succ, i64_w, i32_w]
                  rfl
                refine pure_ (i := 11) (N := some 78) (v := ?_) (a' := ?_) #[true, true, true, true, true, true, true, true, true, true, true, true, false] rfl rfl (by kernel_rfl) (fun _ _ _ h => HP.out _ _ _ _ _ h) (Or.inl ⟨by rfl, ?_⟩) ?_ ?_
                rotate_left
                · intro w'
                  go_simp
                  with_reducible rfl
                rotate_left
                · simp only [Act.put, List.setIfInBounds_toArray, List.set_cons_zero, List.set_cons_succ, i64_w, i32_w]
                  rfl
                refine last_ (i := 12) (N := none) #[true, true, true, true, true, true, true, true, true, true, true, true, true] rfl rfl (by kernel_rfl) (by decide) (fun K hK => ?_)
                refine skip_ (w1 := ?_) (by rfl) rfl ?_ ?_
                rotate_left
                · go_simp
                  rfl
                refine hK.out _ _ ?_
                clear hK K
                refine done_ (by kernel_rfl) ?_
                go_wp2
                go_roundg k2
                case measure => omega
                case rel =>
                  refine ⟨j + 1, x, by first | rfl | (congr 1; omega) | (simp; done), rfl, rfl, rfl, rfl, hjl, HK2, ⟨?_⟩, ⟨?_⟩⟩
                  · rw [accA_next (by rw [HLE.out]; exact hjl), HX.out, if_neg]
                    simp only [HLE.out]
                    rw [← HTG.out, ← HGF.out]
                    simp
                  · rw [outA_next (by rw [HLE.out]; exact hjl), if_neg]
                    · rw [HOL.out.1]
                      simp only [HLE.out]
                      rw [← HTG.out]
                      exact HPUT.out _ _ HG1.out (by have h := HR1.out; rw [List.length_append] at h; exact h)
                    · simp only [HLE.out]
                      rw [← HTG.out, ← HGF.out]
                      simp
              · have y0 := (blkc HT2.out 0 rfl).1
                have y1 := (blkc HT2.out 1 rfl).1
                have y2 := (blkc HT2.out 2 rfl).1
                have y3 := (blkc HT2.out 3 rfl).1
                have y4 := (blkc HT2.out 4 rfl).1
                have HTL := Aside0.mk (show t = (ls.getD i [])[j]'(by rw [HLE.out]; exact hjl) by simp only [HLE.out]; exact HTG.out)
                have HGT := Aside0.mk (show goneB ins i ((ls.getD i [])[j]'(by rw [HLE.out]; exact hjl)) = true by rw [← HTL.out, ← HGF.out])
                have htb := HBD.out (ls.getD i []) (by rw [List.getD_eq_getElem?_getD, List.getElem?_eq_getElem hlt]; exact List.getElem_mem hlt) t (by rw [HTL.out]; exact List.getElem_mem _)
                have hxb := accA_bd ls ins HBD.out hfl i j (by omega)
                rw [← HX.out] at hxb
                obtain ⟨xb1, xb2, xb3, xb4⟩ := hxb
                obtain ⟨tb1, tb2, tb3, tb4⟩ := htb
                clear HS1 HVS HTN
                by_cases hc0 : x.c = 0
                · have z0 : (x.c == 0) = true := by simp [hc0]
                  have ea : (accS x t).a = t.f3 := if_pos (.inl hc0)
                  have eb : (accS x t).b = t.f4 := if_pos (.inl hc0)
                  have EA := Aside0.mk ea
                  have EB := Aside0.mk eb
                  clear ea eb hc0
                  go_wp2
                  go_roundg k2
                  case measure => omega
                  case rel => exact ⟨j + 1, accS x t, by first | rfl | (congr 1; omega) | (simp; done), rfl, rfl, by rw [EA.out], by rw [EB.out], hjl, HK2, ⟨by rw [accA_next (by rw [HLE.out]; exact hjl), if_pos (HGT.out), HX.out]; exact congrArg _ HTL.out⟩, ⟨by rw [outA_next (by rw [HLE.out]; exact hjl), if_pos (HGT.out)]; exact HS2.out⟩⟩
                · have z0 : (x.c == 0) = false := by simp [hc0]
                  cases hb1 : Op.bytesLess t.f3.toList x.a.toList
                  · cases hb2 : Op.bytesLess x.b.toList t.f4.toList
                    · have ea : (accS x t).a = x.a := if_neg (fun h => h.elim hc0 (fun h => by rw [hb1] at h; cases h))
                      have eb : (accS x t).b = x.b := if_neg (fun h => h.elim hc0 (fun h => by rw [hb2] at h; cases h))
                      have EA := Aside0.mk ea
                      have EB := Aside0.mk eb
                      clear ea eb hc0
                      go_wp2
                      go_roundg k2
                      case measure => omega
                      case rel => exact ⟨j + 1, accS x t, by first | rfl | (congr 1; omega) | (simp; done), rfl, rfl, by rw [EA.out], by rw [EB.out], hjl, HK2, ⟨by rw [accA_next (by rw [HLE.out]; exact hjl), if_pos (HGT.out), HX.out]; exact congrArg _ HTL.out⟩, ⟨by rw [outA_next (by rw [HLE.out]; exact hjl), if_pos (HGT.out)]; exact HS2.out⟩⟩
                    · have ea : (accS x t).a = x.a := if_neg (fun h => h.elim hc0 (fun h => by rw [hb1] at h; cases h))
                      have eb : (accS x t).b = t.f4 := if_pos (.inr hb2)
                      have EA := Aside0.mk ea
                      have EB := Aside0.mk eb
                      clear ea eb hc0
                      go_wp2
                      go_roundg k2
                      case measure => omega
                      case rel => exact ⟨j + 1, accS x t, by first | rfl | (congr 1; omega) | (simp; done), rfl, rfl, by rw [EA.out], by rw [EB.out], hjl, HK2, ⟨by rw [accA_next (by rw [HLE.out]; exact hjl), if_pos (HGT.out), HX.out]; exact congrArg _ HTL.out⟩, ⟨by rw [outA_next (by rw [HLE.out]; exact hjl), if_pos (HGT.out)]; exact HS2.out⟩⟩
                  · cases hb2 : Op.bytesLess x.b.toList t.f4.toList
                    · have ea : (accS x t).a = t.f3 := if_pos (.inr hb1)
                      have eb : (accS x t).b = x.b := if_neg (fun h => h.elim hc0 (fun h => by rw [hb2] at h; cases h))
                      have EA := Aside0.mk ea
                      have EB := Aside0.mk eb
                      clear ea eb hc0
                      go_wp2
                      go_roundg k2
                      case measure => omega
                      case rel => exact ⟨j + 1, accS x t, by first | rfl | (congr 1; omega) | (simp; done), rfl, rfl, by rw [EA.out], by rw [EB.out], hjl, HK2, ⟨by rw [accA_next (by rw [HLE.out]; exact hjl), if_pos (HGT.out), HX.out]; exact congrArg _ HTL.out⟩, ⟨by rw [outA_next (by rw [HLE.out]; exact hjl), if_pos (HGT.out)]; exact HS2.out⟩⟩
                    · have ea : (accS x t).a = t.f3 := if_pos (.inr hb1)
                      have eb : (accS x t).b = t.f4 := if_pos (.inr hb2)
                      have EA := Aside0.mk ea
                      have EB := Aside0.mk eb
                      clear ea eb hc0
                      go_wp2
                      go_roundg k2
                      case measure => omega
                      case rel => exact ⟨j + 1, accS x t, by first | rfl | (congr 1; omega) | (simp; done), rfl, rfl, by rw [EA.out], by rw [EB.out], hjl, HK2, ⟨by rw [accA_next (by rw [HLE.out]; exact hjl), if_pos (HGT.out), HX.out]; exact congrArg _ HTL.out⟩, ⟨by rw [outA_next (by rw [HLE.out]; exact hjl), if_pos (HGT.out)]; exact HS2.out⟩⟩
        · obtain rfl : j = l.length := by omega
          go_wp2
          go_roundg k1
          case measure => omega
          case rel => exact ⟨i + 1, x, by first | rfl | (congr 1; omega) | (simp; done), rfl, rfl, rfl, rfl, hlt, HK1, ⟨by rw [HX.out, accA_level, HLE.out]⟩, ⟨by rw [outA_level hlt, HLE.out]; exact HS.out⟩⟩
    · obtain rfl : i = ls.length := by omega
      go_wp2
      exact hQ.out _ _ _ _ _ _ _ _ _ _ _ _ _ _ _ _ _ _ _ _ _ _ _ _ _ _ _ _ _ _ _ _ _ _ _ _ _ _ _ _ _ _ _ _ _ _ _ _ _ _ _ _ _ _ _ _ _ _ _ _ _ _ _ _ _ _ _ _ _ _ _ _ _ _ _ _ _ _ _ _ x _ HX.out HS.out
end Go.Proofs.Ytdibolblgchpdaa.P
