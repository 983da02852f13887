/- behind, its last part: the new table is put in place, empty levels at the end are left out. -/
import Derived.Test.YtdibolblgchpdaaRB2
import Derived.Deep.RegionHeld3
import Derived.Deep.DeepCutAuto
import Derived.Deep.RegionLaw
namespace Go.Proofs.Ytdibolblgchpdaa.P
open Go.RowKit Go.Proofs.YtdibolblgchpdaaW.PrintWords Go.Proofs.YtdibolblgchpdaaW.PrintLast Go.Proofs.YtdibolblgchpdaaW.PrintMore
attribute [local go_sem] Oper.semAt_some
attribute [local go_sem high] leqS gtrS geqS
set_option linter.unusedVariables false
set_option linter.unusedSimpArgs false
def findAfter (id : Nat) : Code → Option Code
  | .seq a b =>
    match a with
    | .block k _ => if k = id then some b else (match findAfter id a with | some c => some c | none => findAfter id b)
    | _ => (match findAfter id a with | some c => some c | none => findAfter id b)
  | .cond _ a b => match findAfter id a with | some c => some c | none => findAfter id b
  | .block _ c => findAfter id c
  | .loop c => findAfter id c
  | _ => none
/-- How many levels there are, without empty ones at the end. -/
def trimN (L : Nat → List S44) : Nat → Nat
  | 0 => 0
  | n + 1 => if (L n).length = 0 then trimN L n else n + 1
theorem trimN_le (L : Nat → List S44) : ∀ n, trimN L n ≤ n
  | 0 => Nat.le_refl _
  | n + 1 => by
    have := trimN_le L n
    unfold trimN
    split <;> omega
def lastV (L : Nat → List S44) (i m : Nat) (t : S44) : Nat → List S44 := fun k => if k = i then (L i).take m ++ [t] ++ (L i).drop m else L k
def resV (L : Nat → List S44) : List (List S44) := ((List.range 7).map L).take (trimN L 7)
/-- What stands while the end is cut. -/
structure TrM (w : World) (p8 R q m : Nat) (L : Nat → List S44) (vs : Nat → Value) (f : Nat → Nat) (W : World) : Prop where
  below : Below w.heap.size w W
  b8 : ∃ v, W.heap[p8]? = some (.cells #[v] 24 (0, 0))
  out : W.heap[q]? = some (.cells #[.slice (some ⟨R, 0, none⟩) m 7] 24 (0, 0))
  row : W.heap[R]? = some (.cells ((List.range 7).map vs).toArray 42 (0, 0))
  each : ∀ k, k < 7 → Kd.R k44 44 W w.heap.size (fun b => f b = k) (vs k) (L k)
  nq : w.heap.size ≤ q
  n8 : w.heap.size ≤ p8
  nR : w.heap.size ≤ R
section
variable {w W : World} {p8 R q m : Nat} {L : Nat → List S44} {vs : Nat → Value} {f : Nat → Nat}
theorem TrM.cut (h : TrM w p8 R q m L vs f W) (h8 : p8 ≠ q) (k : Nat) : TrM w p8 R q k L vs f (W.setCell ⟨q, 0, none⟩ (.slice (some ⟨R, 0, none⟩) k 7)) := by
  have hT : ∀ p, p ∈ 44 :: k44.E → p ≠ 24 := by decide
  have hne : R ≠ q := by
    rintro rfl
    have h1 := h.out
    rw [h.row] at h1
    have := Option.some.inj h1
    injection this with _ h2
    exact absurd h2 (by decide)
  obtain ⟨v, h8'⟩ := h.b8
  exact ⟨below_set (j := 0) h.below h.nq, ⟨v, blk_far h8' (p := ⟨q, 0, none⟩) h8 _⟩, blk_put h.out 0 _ rfl, blk_far h.row (p := ⟨q, 0, none⟩) hne _, fun k hk => Kd.R_set (h.each k hk) h.out hT _ _, h.nq, h.n8, h.nR⟩
theorem TrM.fin (h : TrM w p8 R q m L vs f W) (h8 : p8 ≠ q) (hm : m ≤ 7) (v : Value) : Below w.heap.size w (W.setCell ⟨p8, 0, none⟩ v) ∧ (W.setCell ⟨p8, 0, none⟩ v).cell? ⟨p8, 0, none⟩ = some v ∧
    Kd.F (Kd.slice 44 k44) (W.setCell ⟨p8, 0, none⟩ v) (fun b => w.heap.size ≤ b) (some ⟨R, 0, none⟩) m (((List.range 7).map L).take m) := by
  have hT : ∀ p, p ∈ 44 :: k44.E → p ≠ 24 := by decide
  obtain ⟨v0, hb⟩ := h.b8
  have hne : R ≠ p8 := by
    rintro rfl
    have h1 := hb
    rw [h.row] at h1
    have := Option.some.inj h1
    injection this with _ h2
    exact absurd h2 (by decide)
  have hr0 := blk_far h.row (p := ⟨p8, 0, none⟩) hne v
  refine ⟨below_set (j := 0) h.below h.n8, (blkc (blk_put hb 0 v rfl) 0 rfl).1, fun W' hW => ⟨by simp; omega, by omega, fun hp => ⟨_, rfl, fun j x hj => ?_⟩⟩⟩
  have hr := (hW R h.nR (blk_lt hr0)).trans hr0
  have hjm : j < m := by have := (List.getElem?_eq_some_iff.1 hj).1; simp at this; omega
  have hx : L j = x := by
    rw [List.getElem?_take_of_lt hjm, List.getElem?_map, List.getElem?_range (by omega)] at hj
    exact Option.some.inj hj
  subst hx
  have hR := Kd.R_step (Kd.R_bound (Kd.R_set (h.each j (by omega)) hb hT 0 v)) (fun k hk hlt => hW k hk.2.1 hlt)
  obtain ⟨A, c, e⟩ := Kd.R_slice hR
  rw [e] at hR
  have hrd := Kd.R_reads' hR
  refine ⟨[vs j], rfl, ⟨A, c, by rw [e], hrd.2.1, hrd.2.2⟩, fun i u hu => ?_⟩
  have s : (Kd.slice 44 k44).sz = 1 := rfl
  match i, hu with
  | 0, hu =>
    have : vs j = u := by simpa using hu
    subst this
    rw [s, Nat.mul_one, Nat.add_zero]
    have e2 : (⟨R, 0, none⟩ : Addr).add j = ⟨R, j, none⟩ := by unfold Addr.add; by_cases hj0 : j = 0 <;> simp [hj0]
    rw [e2, blk_cell hr]
    simp [show j < 7 by omega]
  | i + 1, hu => simp at hu
end
theorem grown_of_below {W W1 : World} {r : Option Nat} (h : Below W.heap.size W W1) : W.grownBy W1 r := ⟨h.os, h.tape, h.output, h.size, fun k hk _ => h.block k hk⟩
set_option maxHeartbeats 16000000 in
set_option maxRecDepth 100000 in
theorem behind_tail (code : Code) (hcode : findAfter 6 (Try.f19.body.getD .skip) = some code) (P : Ending → World → Prop) (w W2 wc : World) (p5 p8 R q T n m : Nat) (V J : Array Value) (L : Nat → List S44) (vs : Nat → Value) (f : Nat → Nat) (Ak : Option Addr) (ll ck : Nat) (t : S44) (u0 u1 u2 u3 u4 u5 u6 u7 u11 u12 u13 u14 u15 u16 u17 u18 u19 u20 u21 u25 u26 u27 u28 u29 u30 u31 u32 u33 u34 u35 u36 u37 u38 u39 u40 u41 u42 u43 u44 u45 u46 u47 u48 u49 u50 u51 u52 u53 u54 u55 u56 u57 u58 u59 u60 u61 u62 u63 u64 u65 u66 u67 u68 u69 u70 u71 u72 u73 u74 u75 u76 u77 u78 u79 u80 u81 u82 u83 u84 u85 u86 u87 u88 u89 u90 u91 u92 u93 u94 u95 u96 u97 u98 u99 u100 u101 u102 u103 u104 u105 u106 u107 u108 u109 u110 u111 u112 u113 u114 u115 u116 u117 u118 u119 u120 u121 u122 u123 u124 u125 u126 u127 u128 u129 u130 u131 u132 u133 u134 u135 u136 u137 u138 u139 u140 u141 u142 u143 u144 u145 u146 u147 u148 u149 u150 u151 u152 u153 u154 u155 u156 u157 u158 u159 u160 u161 u162 u163 u164 u165 u166 u167 u168 u169 u170 u171 u172 u173 u174 u175 u176 u177 u178 u179 u180 u181 u182 u183 u184 u185 u186 u187 u188 u189 u190 u191 u192 u193 u194 u195 u196 u197 u198 u199 u200 u201 u202 u203 u204 u205 u206 u207 u208 u209 u210 u211 u212 : Value)
    (HB2 : Aside0 (BSt w w.heap.size p5 p8 R q V J L W2)) (HO2 : Aside0 (OutM w.heap.size R q W2 L vs f)) (HEV : Aside0 (vs (n + 1) = .slice Ak ll ck)) (HLL : Aside0 ((L (n + 1)).length = ll)) (hck : ll ≤ ck) (hll1 : ll ≤ 1024) (HCK : Aside0 (Kd.C k44 W2 Ak ll (L (n + 1))))
    (HT2 : Aside0 (W2.heap[T]? = some (.cells #[.int .i64 t.f0, .int .i64 t.f1, .int .i64 t.f2, .string t.f3, .string t.f4] 44 (0, 0)))) (hn5 : n ≤ 5) (hm : m ≤ ll) (HBm : Aside0 (Below W2.heap.size W2 wc)) (H8 : Aside0 (p8 ≠ q ∧ w.heap.size ≤ p8 ∧ w.heap.size ≤ q))
    (HP : Aside0 (∀ A' c' W, Below w.heap.size w W → (resV (lastV L (n + 1) m t)).length ≤ c' → Kd.F (Kd.slice 44 k44) W (fun b => w.heap.size ≤ b) A' (resV (lastV L (n + 1) m t)).length (resV (lastV L (n + 1) m t)) → P (.returned (.tuple #[.agg #[.slice A' (resV (lastV L (n + 1) m t)).length c'], .bool true])) W)) :
    Code.wp Try.prog code (bodyPost Try.prog Try.f19 P) { tmps := #[u0, u1, u2, u3, u4, u5, u6, u7, .pointer (some ⟨p8, 0, none⟩), .bool false, .pointer (some ⟨q, 0, none⟩), u11, u12, u13, u14, u15, u16, u17, u18, u19, u20, u21, .int .i64 ((n : Int) + 1), .pointer (some ⟨T, 0, none⟩), .int .i64 m, u25, u26, u27, u28, u29, u30, u31, u32, u33, u34, u35, u36, u37, u38, u39, u40, u41, u42, u43, u44, u45, u46, u47, u48, u49, u50, u51, u52, u53, u54, u55, u56, u57, u58, u59, u60, u61, u62, u63, u64, u65, u66, u67, u68, u69, u70, u71, u72, u73, u74, u75, u76, u77, u78, u79, u80, u81, u82, u83, u84, u85, u86, u87, u88, u89, u90, u91, u92, u93, u94, u95, u96, u97, u98, u99, u100, u101, u102, u103, u104, u105, u106, u107, u108, u109, u110, u111, u112, u113, u114, u115, u116, u117, u118, u119, u120, u121, u122, u123, u124, u125, u126, u127, u128, u129, u130, u131, u132, u133, u134, u135, u136, u137, u138, u139, u140, u141, u142, u143, u144, u145, u146, u147, u148, u149, u150, u151, u152, u153, u154, u155, u156, u157, u158, u159, u160, u161, u162, u163, u164, u165, u166, u167, u168, u169, u170, u171, u172, u173, u174, u175, u176, u177, u178, u179, u180, u181, u182, u183, u184, u185, u186, u187, u188, u189, u190, u191, u192, u193, u194, u195, u196, u197, u198, u199, u200, u201, u202, u203, u204, u205, u206, u207, u208, u209, u210, u211, u212], defers := [] } wc := by
  conv at hcode => lhs; whnf
  injection hcode with hcode
  subst hcode
  have HE := Aside0.mk (fun (W : World) (hb : Below W2.heap.size W2 W) => show W.cell? ⟨q, 0, none⟩ = some (.slice (some ⟨R, 0, none⟩) 7 7) ∧ W.cell? ⟨R, n + 1, none⟩ = some (.slice Ak ll ck) from ⟨pw_cell_below hb HO2.out.cellq, by rw [← HEV.out]; exact pw_cell_below hb (HO2.out.cellR (by omega))⟩)
  obtain ⟨i0, hi0, hz0⟩ := Option.map_eq_some_iff.1 info44
  simp only [Prod.mk.injEq] at hz0
  have hcut1 := cut_to (P := Try.prog) 42 44 .i64 Try.underlying42 hi0 Ak ll ck (m : Int) (by omega) (by omega) hck
  have HCUT2 := Aside0.mk (cut_from (P := Try.prog) 42 44 .i64 Try.underlying42 hi0 5 hz0.2.1 Ak ll ck (m : Int) (by omega) (by omega))
  simp only [Int.toNat_natCast] at hcut1 HCUT2
  have HTK := Aside0.mk (show Kd.C k44 W2 Ak m ((L (n + 1)).take m) by
    have h0 := HCK.out
    rw [← HLL.out] at h0
    have h := Kd.C_take h0 (show m ≤ (L (n + 1)).length by rw [HLL.out]; exact hm)
    have e : ((L (n + 1)).take m).length = m := by rw [List.length_take, HLL.out]; omega
    rw [e] at h
    exact h)
  clear hz0 hi0
  obtain ⟨e0, e1⟩ := HE.out wc HBm.out
  have hi7z : (n : Int) + 1 < 7 := by omega
  have hn0z : (0 : Int) ≤ (n : Int) + 1 := by omega
  go_wp2_with (first
    | ((with_reducible refine gate_dst (N := 163) rfl ?_); refine Kd.R_lit k44 _ 44 ?hg (N := 163) ?hd (xs := ([] : List (S44))) (inner := []) (ok := fun _ => True) (okp := fun _ => True) ?hr ?hp (fun _ hk => hk) trivial (Below.refl _ _) (Nat.le_refl _) (by simp) ?_; (case hd => rfl); (case hg => rfl); (case hr => first | (go_simp; done) | (go_simp; rfl)); (case hp => exact (Reps.none _ _)); intro v5 w5 ho hb hg_ hnew_; have HO5 := Aside0.mk (Kd.R_lower ho HBm.out.size); have HB5 := Aside0.mk (below_step HBm.out hb); obtain ⟨f0, f1⟩ := HE.out w5 HB5.out; clear hg_ hnew_ ho hb e0 e1)
    | ((with_reducible refine gate_builtin (b := .append) (xs := #[.tmp 163, .tmp 170]) rfl ?_); at_builtin; refine Kd.R_append_rows k44 (w0 := W2) W2.heap.size rfl (.tmp 163) (.tmp 170) 42 44 (.agg #[(.int .i64 0), (.int .i64 0), (.int .i64 0), (.string ⟨#[]⟩), (.string ⟨#[]⟩)]) 56 rfl Try.underlying42 info44 rfl (by decide) (by omega) v5 [] ((L (n + 1)).take m) _ _ _ (fun _ => True) (fun _ => False) rfl rfl ?aO ?aR (fun _ _ h => h) (fun _ h => h.elim) ?aF ?aB ?aS ?aL ?_; (case aR => exact (Kd.C_below HTK.out HB5.out)); (case aB => exact HB5.out); (case aF => exact (fun _ _ => trivial)); (case aO => exact HO5.out); (case aS => exact HB5.out.size); (case aL => simp; omega); intro v7 w7 ho hb hg hat; have HB7 := Aside0.mk hb; rw [List.nil_append] at ho; have HR7 := Aside0.mk ho; have ht := blk_below HT2.out hb; have y0 := (blkc ht 0 rfl).1; have y1 := (blkc ht 1 rfl).1; have y2 := (blkc ht 2 rfl).1; have y3 := (blkc ht 3 rfl).1; have y4 := (blkc ht 4 rfl).1; clear ho hb hg hat ht f0 f1 hcut1)
    | ((with_reducible refine gate_builtin (b := .append) (xs := #[.tmp 172, .tmp 174]) rfl ?_); at_builtin; refine Kd.R_append k44 (w0 := W2) W2.heap.size rfl (.tmp 172) (.tmp 174) 42 44 (.agg #[(.int .i64 0), (.int .i64 0), (.int .i64 0), (.string ⟨#[]⟩), (.string ⟨#[]⟩)]) 56 rfl Try.underlying42 info44 rfl (by decide) (by omega) v7 ((L (n + 1)).take m) t [.int .i64 t.f0, .int .i64 t.f1, .int .i64 t.f2, .string t.f3, .string t.f4] (fun _ => True) (fun _ => False) rfl rfl (k44_mkM _ _ _ t) (fun _ h => h.elim) (fun _ _ => trivial) HR7.out HB7.out HB7.out.size (by rw [List.length_take]; omega) ?_; intro v8 w8 ho hb hg hat; have HB8 := Aside0.mk hb; have HR8 := Aside0.mk ho; obtain ⟨g0, g1⟩ := HE.out w8 hb; clear ho hb hg hat y0 y1 y2 y3 y4))
  obtain ⟨Ac, hAc⟩ : ∃ A, (if ck = m then Ak else Ak.map (·.add (m * 5))) = A := ⟨_, rfl⟩
  have hcut2 := HCUT2.out
  rw [hAc] at hcut2
  have HDR := Aside0.mk (show Kd.C k44 W2 Ac (ll - m) ((L (n + 1)).drop m) by
    have h0 := HCK.out
    rw [← HLL.out] at h0
    have h := Kd.C_drop h0 (show m ≤ (L (n + 1)).length by rw [HLL.out]; exact hm) (show (L (n + 1)).length ≤ ck by rw [HLL.out]; exact hck)
    have s : k44.sz = 5 := rfl
    rw [List.length_drop, HLL.out, s, hAc] at h
    exact h)
  have HRD := Aside0.mk (Kd.R_below HR8.out (below_drew (Below.refl w8.heap.size w8)))
  have HBD := Aside0.mk (below_drew HB8.out)
  have HAL := Aside0.mk (show (((L (n + 1)).take m ++ [t]).length + (ll - m)) * 56 ≤ 140737488355328 by rw [List.length_append, List.length_take, HLL.out]; simp; omega)
  clear hAc
  refine start_ (n := 14) (S := fun w' => w'.cell? ⟨q, 0, none⟩ = some (.slice (some ⟨R, 0, none⟩) 7 7) ∧ w'.cell? ⟨R, n + 1, none⟩ = some (.slice Ak ll ck)) (ds := [13]) #[false, false, false, false, false, false, false, false, false, false, false, false, false, false] (by kernel_rfl) rfl rfl ⟨g0, g1⟩ (fun hHeld => ?_)
  refine pure_ (i := 0) (N := some 176) (v := ?_) (a' := ?_) #[true, false, false, false, false, false, false, false, false, false, false, false, false, false] rfl rfl (by kernel_rfl) (fun _ _ _ h => h) (Or.inl ⟨by rfl, ?_⟩) ?_ ?_
  rotate_left
  · intro w'
    go_simp
    with_reducible rfl
  rotate_left
  · simp only [Act.put, List.setIfInBounds_toArray, List.set_cons_zero, List.set_cons_succ, i64_w, i32_w]
    rfl
  refine pure_ (i := 2) (N := some 178) (v := ?_) (a' := ?_) #[true, false, true, false, false, false, false, false, false, false, false, false, false, false] rfl rfl (by kernel_rfl) (fun _ _ _ h => h) (Or.inl ⟨by rfl, ?_⟩) ?_ ?_
  rotate_left
  · intro w'
    go_simp
    with_reducible rfl
  rotate_left
  · simp only [Act.put, List.setIfInBounds_toArray, List.set_cons_zero, List.set_cons_succ, i64_w, i32_w]
    rfl
  refine pure_ (i := 3) (N := some 179) (v := ?_) (a' := ?_) #[true, false, true, true, false, false, false, false, false, false, false, false, false, false] rfl rfl (by kernel_rfl) (fun _ _ _ h => h) (Or.inl ⟨by rfl, ?_⟩) ?_ ?_
  rotate_left
  · intro w'
    go_simp
    with_reducible rfl
  rotate_left
  · simp only [Act.put, List.setIfInBounds_toArray, List.set_cons_zero, List.set_cons_succ, i64_w, i32_w]
    rfl
  refine pure_ (i := 4) (N := some 180) (v := ?_) (a' := ?_) #[true, false, true, true, true, false, false, false, false, false, false, false, false, false] rfl rfl (by kernel_rfl) (fun _ _ _ h => h) (Or.inl ⟨by rfl, ?_⟩) ?_ ?_
  rotate_left
  · intro w'
    go_simp
    with_reducible rfl
  rotate_left
  · simp only [Act.put, List.setIfInBounds_toArray, List.set_cons_zero, List.set_cons_succ, i64_w, i32_w]
    rfl
  refine pure_ (i := 6) (N := some 182) (v := ?_) (a' := ?_) #[true, false, true, true, true, false, true, false, false, false, false, false, false, false] rfl rfl (by kernel_rfl) (fun _ _ _ h => h) (Or.inl ⟨by rfl, ?_⟩) ?_ ?_
  rotate_left
  · intro w'
    go_simp
    with_reducible rfl
  rotate_left
  · simp only [Act.put, List.setIfInBounds_toArray, List.set_cons_zero, List.set_cons_succ, i64_w, i32_w]
    rfl
  refine pure_ (i := 9) (N := some 185) (v := ?_) (a' := ?_) #[true, false, true, true, true, false, true, false, false, true, false, false, false, false] rfl rfl (by kernel_rfl) (fun _ _ _ h => h) (Or.inl ⟨by rfl, ?_⟩) ?_ ?_
  rotate_left
  · intro w'
    go_simp
    with_reducible rfl
  rotate_left
  · simp only [Act.put, List.setIfInBounds_toArray, List.set_cons_zero, List.set_cons_succ, i64_w, i32_w]
    rfl
  refine take_ (i := 1) (N := some 177) (v := ?_) (a' := ?_) #[true, true, true, true, true, false, true, false, false, true, false, false, false, false] rfl rfl (by kernel_rfl) (fun _ _ _ h => h) (Or.inl ⟨by rfl, ?_⟩) hHeld ?_ ?_
  rotate_left
  · rintro w' ⟨s0, s1⟩
    go_simp
    with_reducible rfl
  rotate_left
  · simp only [Act.put, List.setIfInBounds_toArray, List.set_cons_zero, List.set_cons_succ, i64_w, i32_w]
    rfl
  refine take_ (i := 5) (N := some 181) (v := ?_) (a' := ?_) #[true, true, true, true, true, true, true, false, false, true, false, false, false, false] rfl rfl (by kernel_rfl) (fun _ _ _ h => h) (Or.inl ⟨by rfl, ?_⟩) hHeld ?_ ?_
  rotate_left
  · rintro w' ⟨s0, s1⟩
    go_simp
    with_reducible rfl
  rotate_left
  · simp only [Act.put, List.setIfInBounds_toArray, List.set_cons_zero, List.set_cons_succ, i64_w, i32_w]
    rfl
  refine pure_ (i := 7) (N := some 183) (v := ?_) (a' := ?_) #[true, true, true, true, true, true, true, true, false, true, false, false, false, false] rfl rfl (by kernel_rfl) (fun _ _ _ h => h) (Or.inl ⟨by rfl, ?_⟩) ?_ ?_
  rotate_left
  · intro w'
    go_simp
    with_reducible rfl
  rotate_left
  · simp only [Act.put, List.setIfInBounds_toArray, List.set_cons_zero, List.set_cons_succ, i64_w, i32_w]
    rfl
  refine take_ (i := 8) (N := some 184) (v := ?_) (a' := ?_) #[true, true, true, true, true, true, true, true, true, true, false, false, false, false] rfl rfl (by kernel_rfl) (fun _ _ _ h => h) (Or.inl ⟨by rfl, ?_⟩) hHeld ?_ ?_
  rotate_left
  · rintro w' ⟨s0, s1⟩
    go_simp
    with_reducible rfl
  rotate_left
  · simp only [Act.put, List.setIfInBounds_toArray, List.set_cons_zero, List.set_cons_succ, i64_w, i32_w]
    rfl
  refine pure_ (i := 10) (N := some 186) (v := ?_) (a' := ?_) #[true, true, true, true, true, true, true, true, true, true, true, false, false, false] rfl rfl (by kernel_rfl) (fun _ _ _ h => h) (Or.inl ⟨by rfl, ?_⟩) ?_ ?_
  rotate_left
  · intro w'
    go_simp
    with_reducible rfl
  rotate_left
  · simp only [Act.put, List.setIfInBounds_toArray, List.set_cons_zero, List.set_cons_succ, i64_w, i32_w]
    rfl
  refine one_ (i := 11) (N := some 187) #[true, true, true, true, true, true, true, true, true, true, true, true, false, false] rfl rfl (by kernel_rfl) (by decide) (fun K hK => ?_)
  refine Kd.R_append_rows_step k44 (w0 := W2) W2.heap.size (by rfl) (.tmp 179) (.tmp 186) 42 44 (.agg #[(.int .i64 0), (.int .i64 0), (.int .i64 0), (.string ⟨#[]⟩), (.string ⟨#[]⟩)]) 56 rfl Try.underlying42 info44 rfl (by decide) (by omega) v8 ((L (n + 1)).take m ++ [t]) ((L (n + 1)).drop m) _ _ _ (fun _ => True) (fun _ => False) rfl rfl ?aO ?aR (fun _ _ h => h) (fun _ h => h.elim) ?aF ?aB ?aS ?aL ?_
  (case aR => exact (Kd.C_below HDR.out HBD.out))
  (case aB => exact HBD.out)
  (case aF => exact (fun _ _ => trivial))
  (case aO => exact HRD.out)
  (case aS => exact HBD.out.size)
  (case aL => exact HAL.out)
  intro v9 w9 ho hb hg hat
  obtain ⟨A9, c9, e9⟩ := Kd.R_slice ho
  obtain ⟨l9, hl9⟩ : ∃ k, ((L (n + 1)).take m ++ [t] ++ (L (n + 1)).drop m).length = k := ⟨_, rfl⟩
  rw [hl9] at e9
  subst e9
  have HL9 := Aside0.mk hl9
  have HR9 := Aside0.mk ho
  have HB9 := Aside0.mk hb
  obtain ⟨h0, h1⟩ := HE.out w9 hb
  have hfz := blk_frozen (blk_below HO2.out.row hb) (n + 1)
  clear ho hb hg hat hl9
  refine hK.out _ _ ⟨h0, h1⟩ (fun hHeld => ?_)
  clear hK K
  refine norm_ (a' := ?_) ?_ ?_
  rotate_left
  · show Act.put _ (some 187) _ = _
    simp only [Act.put, List.setIfInBounds_toArray, List.set_cons_zero, List.set_cons_succ, i64_w, i32_w]
    rfl
  refine pure_ (i := 12) (N := some 188) (v := ?_) (a' := ?_) #[true, true, true, true, true, true, true, true, true, true, true, true, true, false] rfl rfl (by kernel_rfl) (fun _ _ _ h => h) (Or.inl ⟨by rfl, ?_⟩) ?_ ?_
  rotate_left
  · intro w'
    go_simp
    with_reducible rfl
  rotate_left
  · simp only [Act.put, List.setIfInBounds_toArray, List.set_cons_zero, List.set_cons_succ, i64_w, i32_w]
    rfl
  refine last_ (i := 13) (N := none) #[true, true, true, true, true, true, true, true, true, true, true, true, true, true] rfl rfl (by kernel_rfl) (by decide) (fun K hK => ?_)
  refine skip_ (w1 := ?_) (by rfl) rfl ?_ ?_
  rotate_left
  · go_simp
    rfl
  refine hK.out _ _ ?_
  clear hK K
  refine done_ (by kernel_rfl) ?_
  have HT3 := HO2.out.put (i := n + 1) (by omega) (Kd.R_lower (Kd.R_mono (Kd.R_bound HR9.out) (fun k hk => tagN_new W2 f (n + 1) k hk.2.1)) HB2.out.below.size) (grown_of_below HB9.out)
  have HB3 := HB2.out.put HO2.out (i := n + 1) (by omega) (Kd.R_lower (Kd.R_mono (Kd.R_bound HR9.out) (fun k hk => tagN_new W2 f (n + 1) k hk.2.1)) HB2.out.below.size) (grown_of_below HB9.out)
  obtain ⟨LV, hLV⟩ : ∃ LV, lastV L (n + 1) m t = LV := ⟨_, rfl⟩
  rw [hLV] at HP
  have hex : ∃ vs3 f3, TrM w p8 R q 7 LV vs3 f3 (w9.setCell ⟨R, n + 1, none⟩ (.slice A9 l9 c9)) := ⟨_, _, HB3.below, ⟨_, HB3.b8⟩, HT3.out, HT3.row, by rw [← hLV]; exact HT3.each, H8.out.2.2, H8.out.2.1, HB2.out.nR⟩
  obtain ⟨vs3, f3, htr⟩ := hex
  have HTR := Aside0.mk htr
  clear HT3 HB3 hLV htr HR9 HL9 g0 g1 hi7z hn0z hcut2 hfz h0 h1
  generalize w9.setCell ⟨R, n + 1, none⟩ (.slice A9 l9 c9) = W3 at HTR ⊢
  obtain ⟨i2, hi2, _⟩ := Option.map_eq_some_iff.1 info42
  have q0 := (blkc HTR.out.out 0 rfl).1
  go_wp2
  go_loopg [26] 7 (fun kq v26 w' => ∃ k : Nat, v26 = .int .i64 k ∧ k ≤ 7 ∧ Aside0 (kq = k) ∧ Aside0 (trimN LV 7 = trimN LV k) ∧ Aside0 (TrM w p8 R q k LV vs3 f3 w'))
  case atStart => exact ⟨7, rfl, Nat.le_refl _, ⟨rfl⟩, ⟨rfl⟩, HTR⟩
  case round =>
    clear HTR q0
    obtain ⟨k, rfl, hk7, HK, HQ, HTR⟩ := hrel
    have q0 := (blkc HTR.out.out 0 rfl).1
    have q0f := (blkc HTR.out.out 0 rfl).2
    obtain ⟨v8, hv8⟩ := HTR.out.b8
    have p8f := (blkc hv8 0 rfl).2
    have p8c := (blkc hv8 0 rfl).1
    have fin : trimN LV 7 = k → True := fun _ => trivial
    cases k with
    | zero =>
      have HF := Aside0.mk (HTR.out.fin H8.out.1 (by omega) (.slice (some ⟨R, 0, none⟩) 0 7))
      have c8 := HF.out.2.1
      clear hv8
      go_wp2
      refine bodyPost_ret (v := .tuple #[.agg #[.slice (some ⟨R, 0, none⟩) 0 7], .bool true]) (by simp [results, Try.results19, go_sem, c8]) rfl ?_
      have hq : trimN LV 7 = 0 := HQ.out
      have hr : resV LV = [] := by unfold resV; rw [hq]; rfl
      have h := HP.out (some ⟨R, 0, none⟩) 7 _ HF.out.1 (by rw [hr]; exact Nat.zero_le _) (by rw [hr]; exact HF.out.2.2)
      rw [hr] at h
      exact h
    | succ k =>
      obtain ⟨A7, c7, e7⟩ := Kd.R_slice (HTR.out.each k (by omega))
      have z1 : _ := blk_cell HTR.out.row k
      obtain ⟨s7, hs7⟩ : ∃ s, (LV k).length = s := ⟨_, rfl⟩
      rw [show ((List.range 7).map vs3).toArray[k]? = some (vs3 k) by simp [show k < 7 by omega], e7, hs7] at z1
      have HS7 := Aside0.mk hs7
      clear e7 hs7 hv8
      by_cases h0 : s7 = 0
      · obtain ⟨k1, rfl⟩ : ∃ k1, gk = k1 + 1 := ⟨gk - 1, by have := HK.out; omega⟩
        have HK1 := Aside0.mk (show k1 = k by have := HK.out; omega)
        have hcut3 := cut_to (P := Try.prog) 22 42 .i64 Try.underlying22 hi2 (some ⟨R, 0, none⟩) (k + 1) 7 (k : Int) (by omega) (by omega) hk7
        simp only [Int.toNat_natCast] at hcut3
        have hb : (s7 == 0) = true := by simp [h0]
        have HQ2 := Aside0.mk (show trimN LV 7 = trimN LV k by rw [HQ.out]; show (if (LV k).length = 0 then _ else _) = _; rw [if_pos (by rw [HS7.out]; exact h0)])
        subst h0
        clear HK
        go_wp2
        go_roundg k1
        case measure => omega
        case rel => exact ⟨k, by first | rfl | (congr 1; omega) | (simp; done), by omega, HK1, HQ2, ⟨HTR.out.cut H8.out.1 k⟩⟩
      · have hb : (s7 == 0) = false := by simp [h0]
        have HQ2 := Aside0.mk (show trimN LV 7 = k + 1 by rw [HQ.out]; show (if (LV k).length = 0 then _ else _) = _; rw [if_neg (by rw [HS7.out]; exact h0)])
        have HF := Aside0.mk (HTR.out.fin H8.out.1 hk7 (.slice (some ⟨R, 0, none⟩) (k + 1) 7))
        have c8 := HF.out.2.1
        go_wp2
        refine bodyPost_ret (v := .tuple #[.agg #[.slice (some ⟨R, 0, none⟩) (k + 1) 7], .bool true]) (by simp [results, Try.results19, go_sem, c8]) rfl ?_
        have hr : resV LV = ((List.range 7).map LV).take (k + 1) := by unfold resV; rw [HQ2.out]
        have hl : (resV LV).length = k + 1 := by rw [hr, List.length_take]; simp; omega
        have h := HP.out (some ⟨R, 0, none⟩) 7 _ HF.out.1 (by rw [hl]; omega) (by rw [hl, hr]; exact HF.out.2.2)
        rw [hl] at h
        exact h
end Go.Proofs.Ytdibolblgchpdaa.P
