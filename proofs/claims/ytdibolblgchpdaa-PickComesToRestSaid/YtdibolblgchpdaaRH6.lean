/- Contracts proved by hand: pick.Meet (slices.Clone, IndexFunc, DeleteFunc). -/
import Derived.Test.YtdibolblgchpdaaRH4
import Derived.Laws.CopyRow
import Derived.Lib.SliceRun
namespace Go.Proofs.Ytdibolblgchpdaa.P
open Go.RowKit Go.Proofs.YtdibolblgchpdaaW.PrintWords Go.Proofs.YtdibolblgchpdaaW.PrintLast Go.Proofs.YtdibolblgchpdaaW.PrintMore
attribute [local go_sem] Oper.semAt_some
attribute [local go_sem high] leqS gtrS geqS
set_option linter.unusedVariables false
set_option linter.unusedSimpArgs false
def c5 (x : S44) : List Value := [.int .i64 x.f0, .int .i64 x.f1, .int .i64 x.f2, .string x.f3, .string x.f4]
/-- The cells of a row hold these tables, one behind the other (and there may be more). -/
def Row44 (cs : Array Value) (ys : List S44) : Prop := ∀ (j : Nat) (p : S44), ys[j]? = some p → ∀ (i : Nat) (u : Value), (c5 p)[i]? = some u → cs[j * 5 + i]? = some u
theorem add_zero_ (W : World) (g k : Nat) : W.cell? ((⟨g, 0, none⟩ : Addr).add k) = W.cell? ⟨g, k, none⟩ := by
 unfold Addr.add
 by_cases h : k = 0
 ·subst h; simp
 ·simp [h]
theorem Row44.C {W : World} {g : Nat} {cs : Array Value} {ys : List S44} (h : Row44 cs ys) (hb : W.heap[g]? = some (.cells cs 44 (0, 0))) (hl : ys.length ≤ 9223372036854775807) : Kd.C k44 W (some ⟨g, 0, none⟩) ys.length ys := by
 refine ⟨rfl, hl, fun _ => ⟨_, rfl, fun j p hj => ⟨c5 p, rfl, k44_mk W p, fun i u hu => ?_⟩⟩⟩
 rw [add_zero_]
 exact (blkc hb _ (h j p hj i u hu)).1
theorem c5_len (x : S44) : (c5 x).length = 5 := rfl
theorem Row44.take {cs : Array Value} {ys : List S44} (h : Row44 cs ys) (n : Nat) : Row44 cs (ys.take n) := fun j p hj i u hu => h j p (by
 rw [List.getElem?_take] at hj
 split at hj
 ·exact hj
 ·cases hj) i u hu
theorem Row44.same {cs cs' : Array Value} {ys : List S44} (h : Row44 cs ys) (n : Nat) (hn : ys.length ≤ n) (hs : ∀ k, k < n * 5 → cs'[k]? = cs[k]?) : Row44 cs' ys := fun j p hj i u hu => by
 have h1 := (List.getElem?_eq_some_iff.1 hj).1
 have h2 := (List.getElem?_eq_some_iff.1 hu).1
 rw [c5_len] at h2
 rw [hs _ (by omega)]
 exact h j p hj i u hu
theorem Row44.put {cs : Array Value} {ys : List S44} (h : Row44 cs ys) (k : Nat) (hk : k < ys.length) (hsz : ys.length * 5 ≤ cs.size) (x : S44) :
  Row44 (((((cs.setIfInBounds (k * 5) (.int .i64 x.f0)).setIfInBounds (k * 5 + 1) (.int .i64 x.f1)).setIfInBounds (k * 5 + 2) (.int .i64 x.f2)).setIfInBounds (k * 5 + 3) (.string x.f3)).setIfInBounds (k * 5 + 4) (.string x.f4)) (ys.set k x) := fun j p hj i u hu => by
 have h2 := (List.getElem?_eq_some_iff.1 hu).1
 rw [c5_len] at h2
 have h1 := (List.getElem?_eq_some_iff.1 hj).1
 rw [List.length_set] at h1
 by_cases hkj : k = j
 ·subst hkj
  rw [List.getElem?_set_self hk] at hj
  obtain rfl := Option.some.inj hj
  simp only [Array.getElem?_setIfInBounds, Array.size_setIfInBounds]
  match i, h2, hu with
  | 0, _, hu => rw [if_neg (by omega), if_neg (by omega), if_neg (by omega), if_neg (by omega), if_pos (by omega), if_pos (by omega)]; exact hu
  | 1, _, hu => rw [if_neg (by omega), if_neg (by omega), if_neg (by omega), if_pos (by omega), if_pos (by omega)]; exact hu
  | 2, _, hu => rw [if_neg (by omega), if_neg (by omega), if_pos (by omega), if_pos (by omega)]; exact hu
  | 3, _, hu => rw [if_neg (by omega), if_pos (by omega), if_pos (by omega)]; exact hu
  | 4, _, hu => rw [if_pos (by omega), if_pos (by omega)]; exact hu
 ·rw [List.getElem?_set_ne hkj] at hj
  simp only [Array.getElem?_setIfInBounds, Array.size_setIfInBounds]
  rw [if_neg (by omega), if_neg (by omega), if_neg (by omega), if_neg (by omega), if_neg (by omega)]
  exact h j p hj i u hu
/-- clear of the end of a row of tables. -/
theorem clear_row {W : World} {G i m c : Nat} {cs : Array Value} (ty : TypeId) (h : W.heap[G]? = some (.cells cs 44 (0, 0))) (hm : (i + m) * 5 ≤ cs.size) :
  ∃ W', (Builtin.clear_ #[42] ty #[.slice (some ⟨G, i * 5, none⟩) m c]).run Try.prog W = .ok (.tuple #[]) W' ∧ W.grownBy W' (some G) ∧ ∃ cs', W'.heap[G]? = some (.cells cs' 44 (0, 0)) ∧ cs'.size = cs.size ∧ ∀ k, k < i * 5 → cs'[k]? = cs[k]? := by
 cases m with
 | zero => exact ⟨W, rfl, ⟨rfl, rfl, rfl, Nat.le_refl _, fun _ _ _ => rfl⟩, cs, h, rfl, fun _ _ => rfl⟩
 | succ m =>
  have hu : Try.prog.underlying 42 = some (.slice 44) := Try.underlying42
  have hz : ∀ w, (zeroValue 44).run Try.prog w = .ok (.agg #[.int .i64 0, .int .i64 0, .int .i64 0, .string ⟨#[]⟩, .string ⟨#[]⟩]) w := fun w => by kernel_rfl
  obtain ⟨vs, hvs⟩ : ∃ vs, (Builtin.zeroCells (Value.agg #[.int .i64 0, .int .i64 0, .int .i64 0, .string ⟨#[]⟩, .string ⟨#[]⟩]).cells (m + 1)).toList = vs := ⟨_, rfl⟩
  have hlen : vs.length = (m + 1) * 5 := by rw [← hvs]; simp [Builtin.zeroCells, Value.cells]
  have hone : ∀ v ∈ vs, v.oneCell' = true := by
   rw [← hvs]
   intro v hv
   simp only [Builtin.zeroCells, Array.toList_map, List.mem_map] at hv
   obtain ⟨a, _, rfl⟩ := hv
   rcases (show a % 5 = 0 ∨ a % 5 = 1 ∨ a % 5 = 2 ∨ a % 5 = 3 ∨ a % 5 = 4 by omega) with e | e | e | e | e
   all_goals
    show ((#[Value.int .i64 0, .int .i64 0, .int .i64 0, .string ⟨#[]⟩, .string ⟨#[]⟩] : Array Value)[a % 5]!).oneCell' = true
    rw [e]
    rfl
  have hst := run_storeCells_at (P := Try.prog) G (i * 5) 44 vs 0 cs W h (by rw [hlen]; omega) hone
  have hnew := setRow_heap W G cs (cs.toList.take (i * 5 + 0) ++ vs ++ cs.toList.drop (i * 5 + 0 + vs.length)).toArray 44 (0, 0) h
  refine ⟨W.setRow G (cs.toList.take (i * 5 + 0) ++ vs ++ cs.toList.drop (i * 5 + 0 + vs.length)).toArray, ?_, ?_, _, hnew, ?_, ?_⟩
  ·simp [Builtin.clear_, run_underlying hu, hz, hvs, hst]
  ·exact ⟨rfl, rfl, rfl, by simp [World.setRow], fun k _ hne => by simp only [World.setRow, Array.getElem?_modify]; exact if_neg (fun e => hne (by rw [e]))⟩
  ·simp only [List.size_toArray, List.length_append, List.length_take, List.length_drop, Array.length_toList, hlen]; omega
  ·intro k hk
   rw [List.getElem?_toArray, List.append_assoc, List.getElem?_append_left (by rw [List.length_take, Array.length_toList]; omega), List.getElem?_take, if_pos (by omega), Array.getElem?_toList]
def outs (a b : ByteArray) (x : S44) : Bool := Op.bytesLess b.toList x.f3.toList || Op.bytesLess x.f4.toList a.toList
set_option maxHeartbeats 2000000 in
set_option maxRecDepth 100000 in
theorem clo44_calls (x : S44) (a b : ByteArray) (Ba Bb : Nat) (w : World) (ha : w.cell? ⟨Ba, 0, none⟩ = some (.string a)) (hb : w.cell? ⟨Bb, 0, none⟩ = some (.string b)) :
  Calls Try.prog 44 #[cell44 x, .pointer (some ⟨Bb, 0, none⟩), .pointer (some ⟨Ba, 0, none⟩)] w fun e w' => e = .returned (.bool (outs a b x)) ∧ Below w.heap.size w w' := by
 have ha' := below_cell (below_alloc (Below.refl w.heap.size w) (.cells #[.int .i64 x.f0, .int .i64 x.f1, .int .i64 x.f2, .string x.f3, .string x.f4] 44)) ha
 have hb' := below_cell (below_alloc (Below.refl w.heap.size w) (.cells #[.int .i64 x.f0, .int .i64 x.f1, .int .i64 x.f2, .string x.f3, .string x.f4] 44)) hb
 clear ha hb
 by_cases h1 : Op.bytesLess b.toList x.f3.toList = true
 ·go_enter Try.func44, Try.ntmps44
  go_wp2
  go_ret
  exact ⟨by unfold outs; rw [h1]; rfl, below_alloc (Below.refl _ _) _⟩
 ·have h1 := Bool.eq_false_iff.mpr h1
  go_enter Try.func44, Try.ntmps44
  go_wp2
  go_ret
  exact ⟨by unfold outs; rw [h1]; rfl, below_alloc (Below.refl _ _) _⟩
def idxO (a b : ByteArray) : List S44 → Nat → Int
 | [], _ => -1
 | x :: l, i => if outs a b x = true then (i : Int) else idxO a b l (i + 1)
set_option maxRecDepth 100000 in
set_option maxHeartbeats 4000000 in
theorem indexO_calls (A : Option Addr) (c : Nat) (l : List S44) (a b : ByteArray) (Ba Bb : Nat) (w : World) (hC : Kd.C k44 w A l.length l) (hcap : l.length ≤ 1152921504606846976) (ha : w.cell? ⟨Ba, 0, none⟩ = some (.string a)) (hb : w.cell? ⟨Bb, 0, none⟩ = some (.string b)) :
  Calls Try.prog 57 #[.slice A l.length c, .func (.func 44) #[] #[.pointer (some ⟨Bb, 0, none⟩), .pointer (some ⟨Ba, 0, none⟩)]] w fun e w' => e = .returned (.int .i64 (idxO a b l 0)) ∧ Below w.heap.size w w' := by
 have HC := Aside0.mk hC
 clear hC
 go_enter Try.func57, Try.ntmps57
 go_wp2
 go_loopg [8] l.length (fun kq v8 w' => ∃ i : Nat, v8 = .int .i64 i ∧ i ≤ l.length ∧ Aside0 (kq = l.length - i) ∧ Aside0 (idxO a b l 0 = idxO a b (l.drop i) i) ∧ Aside0 (Below w.heap.size w w'))
 case atStart => exact ⟨0, rfl, Nat.zero_le _, ⟨rfl⟩, ⟨rfl⟩, ⟨Below.refl _ _⟩⟩
 case round =>
  obtain ⟨i, rfl, hi, HK, HE, HB⟩ := hrel
  by_cases hlt : i < l.length
  ·obtain ⟨k1, rfl⟩ : ∃ k1, gk = k1 + 1 := ⟨gk - 1, by have := HK.out; omega⟩
   have HK1 := Aside0.mk (show k1 = l.length - (i + 1) by have := HK.out; omega)
   obtain ⟨ad, ea, x0, x1, x2, x3, x4⟩ := at_T44 (Kd.C_below HC.out HB.out) (i : Int) (Int.natCast_nonneg _) (by omega)
   subst ea
   rw [Int.toNat_natCast] at x0 x1 x2 x3 x4
   obtain ⟨x, hx⟩ : ∃ x, rd_T44 l (i : Int) = x := ⟨_, rfl⟩
   rw [hx] at x0 x1 x2 x3 x4
   have hd : l.drop i = x :: l.drop (i + 1) := by rw [← hx, get44 l i hlt]; exact List.drop_eq_getElem_cons hlt
   have HD := Aside0.mk hd
   have HA := Aside0.mk (below_cell HB.out ha)
   have HBb := Aside0.mk (below_cell HB.out hb)
   clear hd hx
   by_cases hq : outs a b x = true
   ·go_wp2_with (go_at_call 44; refine (clo44_calls x a b Ba Bb _ HA.out HBb.out).mono ?_; rintro e w1 ⟨rfl, hbb⟩; rw [hq]; have HB1 := Aside0.mk (HB.out.trans (hbb.mono HB.out.size)); clear hbb)
    go_ret
    refine ⟨?_, HB1.out⟩
    rw [HE.out, HD.out]
    unfold idxO
    rw [if_pos hq]
    rfl
   ·have hq := Bool.eq_false_iff.mpr hq
    go_wp2_with (go_at_call 44; refine (clo44_calls x a b Ba Bb _ HA.out HBb.out).mono ?_; rintro e w1 ⟨rfl, hbb⟩; rw [hq]; have HB1 := Aside0.mk (HB.out.trans (hbb.mono HB.out.size)); clear hbb)
    go_roundg k1
    case measure => omega
    case rel =>
     refine ⟨i + 1, by first | rfl | (congr 1; omega) | (simp; done), by omega, HK1, ⟨?_⟩, HB1⟩
     rw [HE.out, HD.out]
     conv => lhs; unfold idxO
     rw [if_neg (by rw [hq]; decide)]
  ·obtain rfl : i = l.length := by omega
   go_wp2
   go_ret
   refine ⟨?_, HB.out⟩
   rw [HE.out, List.drop_eq_nil_of_le (Nat.le_refl _)]
   rfl
set_option maxRecDepth 100000 in
set_option maxHeartbeats 4000000 in
theorem clone_calls (A : Option Addr) (c : Nat) (l : List S44) (w : World) (hC : Kd.C k44 w A l.length l) (hc : l.length ≤ c) (hbd : l.length * 56 ≤ 140737488355328) :
  Calls Try.prog 43 #[.slice A l.length c] w fun e w' => ∃ v, e = .returned v ∧ Kd.R k44 44 w' w.heap.size (fun _ => True) v l ∧ Below w.heap.size w w' := by
 have hnil : ∀ w, (binOp .eql 42 (.slice A l.length c) (.slice none 0 0)).run Try.prog w = .ok (.bool A.isNone) w := fun w => Lib.run_eql_slice_nil w 42 44 A l.length c 0 0 Try.underlying42
 have HC := Aside0.mk hC
 clear hC
 cases A with
 | none =>
  have h0 : l = [] := by
   rcases Nat.eq_zero_or_pos l.length with h | h
   ·exact List.eq_nil_of_length_eq_zero h
   ·obtain ⟨ad, e, _⟩ := HC.out.2.2 h
    cases e
  subst h0
  clear hnil
  have hnil : ∀ w, (binOp .eql 42 (.slice none 0 c) (.slice none 0 0)).run Try.prog w = .ok (.bool true) w := fun w => Lib.run_eql_slice_nil w 42 44 none 0 c 0 0 Try.underlying42
  go_enter Try.func43, Try.ntmps43
  go_wp2
  go_ret
  exact ⟨_, rfl, Kd.R_nil _ _ _ _ _, Below.refl _ _⟩
 | some ad =>
  go_enter Try.func43, Try.ntmps43
  go_wp2_with (first
   | ((with_reducible refine gate_dst (N := 5) rfl ?_); refine Kd.R_lit k44 _ 44 ?hg (N := 5) ?hd (xs := ([] : List (S44))) (inner := []) (ok := fun _ => True) (okp := fun _ => True) ?hr ?hp (fun _ hk => hk) trivial (Below.refl _ _) (Nat.le_refl _) (by simp) ?_; (case hd => rfl); (case hg => rfl); (case hr => first | (go_simp; done) | (go_simp; rfl)); (case hp => exact (Reps.none _ _)); intro v5 w5 ho hb hg_ hnew_; have HO5 := Aside0.mk ho; have HB5 := Aside0.mk hb; clear hg_ hnew_ ho hb)
   | ((with_reducible refine gate_builtin (b := .append) (xs := #[.tmp 5, .tmp 6]) rfl ?_); at_builtin; refine Kd.R_append_rows k44 (w0 := w) w.heap.size rfl (.tmp 5) (.tmp 6) 42 44 (.agg #[(.int .i64 0), (.int .i64 0), (.int .i64 0), (.string ⟨#[]⟩), (.string ⟨#[]⟩)]) 56 rfl Try.underlying42 info44 rfl (by decide) (by omega) v5 [] l _ _ _ (fun _ => True) (fun _ => False) rfl rfl ?aO ?aR (fun _ _ h => h) (fun _ h => h.elim) ?aF ?aB ?aS ?aL ?_; (case aR => exact (Kd.C_below HC.out HB5.out)); (case aB => exact HB5.out); (case aF => exact (fun _ _ => trivial)); (case aO => exact HO5.out); (case aS => exact HB5.out.size); (case aL => simp; omega); intro v7 w7 ho hb hg hat; have HB7 := Aside0.mk hb; rw [List.nil_append] at ho; have HR7 := Aside0.mk ho; clear ho hb hg hat))
  go_ret
  exact ⟨_, rfl, HR7.out, HB7.out⟩
theorem row_of {W : World} {base : Nat} {v : Value} {l : List S44} {ok : Nat → Prop} (h : Kd.R k44 44 W base ok v l) :
  (v = .slice none 0 0 ∧ l = []) ∨ ∃ G cap cs, v = .slice (some ⟨G, 0, none⟩) l.length cap ∧ base ≤ G ∧ W.heap[G]? = some (.cells cs 44 (0, 0)) ∧ l.length * 5 ≤ cs.size ∧ l.length ≤ cap ∧ Row44 cs l := by
 obtain ⟨A, c', hv, hlc, hC⟩ := Kd.R_reads h
 obtain ⟨inner, _, ho⟩ := Kd.R_own h
 rcases ho with ⟨hv2, h0⟩ | ⟨g, cap, cur, hv2, hg, hb, h1, h2, h3, h4⟩
 ·exact .inl ⟨hv2, List.eq_nil_of_length_eq_zero h0⟩
 ·refine .inr ⟨g, cap, cur, hv2, hg, hb, by rw [h3]; exact Nat.mul_le_mul_right 5 h1, h1, fun j p hj i u hu => ?_⟩
  rw [hv2] at hv
  simp only [Value.slice.injEq] at hv
  obtain ⟨rfl, _, _⟩ := hv
  have hpos : 0 < l.length := by have := (List.getElem?_eq_some_iff.1 hj).1; omega
  obtain ⟨ad, e, hrows⟩ := hC.2.2 hpos
  obtain rfl := Option.some.inj e
  obtain ⟨cs, hlen, hK, hcell⟩ := hrows j p hj
  obtain rfl := k44_open hK
  have h5 := hcell i u hu
  rw [add_zero_, cell_of_row W g _ cur 44 (0, 0) hb] at h5
  exact h5
def keepB (a b : ByteArray) (x : S44) : Bool := !(outs a b x)
theorem idxO_cases (a b : ByteArray) : ∀ (l : List S44) (i : Nat), (idxO a b l i = -1 ∧ l.filter (keepB a b) = l) ∨ ∃ m, idxO a b l i = ((i + m : Nat) : Int) ∧ m < l.length ∧ (l.take m).filter (keepB a b) = l.take m ∧ (l.take (m + 1)).filter (keepB a b) = l.take m
 | [], i => .inl ⟨rfl, rfl⟩
 | x :: l, i => by
  unfold idxO
  by_cases h : outs a b x = true
  ·rw [if_pos h]
   exact .inr ⟨0, rfl, by simp, by simp, by simp [keepB, h]⟩
  ·rw [if_neg h]
   have h' := Bool.eq_false_iff.mpr h
   rcases idxO_cases a b l (i + 1) with ⟨h1, h2⟩ | ⟨m, h1, h2, h3, h4⟩
   ·exact .inl ⟨h1, by rw [List.filter_cons_of_pos (by simp [keepB, h']), h2]⟩
   ·refine .inr ⟨m + 1, by rw [h1]; congr 1; omega, by simp; omega, ?_, ?_⟩
    ·rw [List.take_succ_cons, List.filter_cons_of_pos (by simp [keepB, h']), h3]
    ·rw [List.take_succ_cons, List.filter_cons_of_pos (by simp [keepB, h']), h4]
     rfl
theorem take_put (ys : List S44) (i : Nat) (x : S44) (h : i < ys.length) : (ys.set i x).take (i + 1) = ys.take i ++ [x] := by
 rw [List.take_add_one, List.getElem?_set_self h, List.take_set_of_le (Nat.le_refl _)]
 rfl
theorem drop_put (ys : List S44) (i : Nat) (x : S44) (j : Nat) (h : i < j) : (ys.set i x).drop j = ys.drop j := List.drop_set_of_lt h
theorem five_at {W : World} {G : Nat} {cs : Array Value} (h : W.heap[G]? = some (.cells cs 44 (0, 0))) (k : Nat) (x : S44) :
  (((((W.setCell ⟨G, k, none⟩ (.int .i64 x.f0)).setCell ⟨G, k + 1, none⟩ (.int .i64 x.f1)).setCell ⟨G, k + 2, none⟩ (.int .i64 x.f2)).setCell ⟨G, k + 3, none⟩ (.string x.f3)).setCell ⟨G, k + 4, none⟩ (.string x.f4)).heap[G]? = some (.cells (((((cs.setIfInBounds k (.int .i64 x.f0)).setIfInBounds (k + 1) (.int .i64 x.f1)).setIfInBounds (k + 2) (.int .i64 x.f2)).setIfInBounds (k + 3) (.string x.f3)).setIfInBounds (k + 4) (.string x.f4)) 44 (0, 0)) :=
 blk_set (blk_set (blk_set (blk_set (blk_set h k _) (k + 1) _) (k + 2) _) (k + 3) _) (k + 4) _
theorem five_atB {w W : World} {G b : Nat} (h : Below b w W) (hb : b ≤ G) (k : Nat) (x : S44) :
  Below b w (((((W.setCell ⟨G, k, none⟩ (.int .i64 x.f0)).setCell ⟨G, k + 1, none⟩ (.int .i64 x.f1)).setCell ⟨G, k + 2, none⟩ (.int .i64 x.f2)).setCell ⟨G, k + 3, none⟩ (.string x.f3)).setCell ⟨G, k + 4, none⟩ (.string x.f4)) :=
 ((((h.setCell (p := ⟨G, k, none⟩) hb _).setCell (p := ⟨G, k + 1, none⟩) hb _).setCell (p := ⟨G, k + 2, none⟩) hb _).setCell (p := ⟨G, k + 3, none⟩) hb _).setCell (p := ⟨G, k + 4, none⟩) hb _
theorem cell_off {W : World} {q G k : Nat} {v u : Value} (h : W.cell? ⟨q, 0, none⟩ = some v) (hne : q ≠ G) : (W.setCell ⟨G, k, none⟩ u).cell? ⟨q, 0, none⟩ = some v :=
 (World.cell?_setCell_other _ _ _ _ (fun e => hne (by injection e with e1; exact e1.symm))).trans h
theorem five_atC {W : World} {q G : Nat} {v : Value} (h : W.cell? ⟨q, 0, none⟩ = some v) (hne : q ≠ G) (k : Nat) (x : S44) :
  (((((W.setCell ⟨G, k, none⟩ (.int .i64 x.f0)).setCell ⟨G, k + 1, none⟩ (.int .i64 x.f1)).setCell ⟨G, k + 2, none⟩ (.int .i64 x.f2)).setCell ⟨G, k + 3, none⟩ (.string x.f3)).setCell ⟨G, k + 4, none⟩ (.string x.f4)).cell? ⟨q, 0, none⟩ = some v :=
 cell_off (cell_off (cell_off (cell_off (cell_off h hne) hne) hne) hne) hne
/-- DeleteFunc's row behind j tables, i of them kept. -/
def DelAt (G sz base : Nat) (a b : ByteArray) (l : List S44) (i j : Nat) (w W : World) : Prop :=
 ∃ (ys : List S44) (cs : Array Value), W.heap[G]? = some (.cells cs 44 (0, 0)) ∧ Row44 cs ys ∧ cs.size = sz ∧ ys.length = l.length ∧ ys.take i = (l.take j).filter (keepB a b) ∧ ys.drop j = l.drop j ∧ Below base w W
set_option maxRecDepth 100000 in
set_option maxHeartbeats 8000000 in
theorem deleteFunc_calls (G cap base : Nat) (cs0 : Array Value) (l : List S44) (a b : ByteArray) (Ba Bb : Nat) (w : World) (hb : w.heap[G]? = some (.cells cs0 44 (0, 0))) (hrow : Row44 cs0 l) (hsz : l.length * 5 ≤ cs0.size) (hcap : l.length ≤ cap) (hl : l.length ≤ 1152921504606846976)
  (ha : w.cell? ⟨Ba, 0, none⟩ = some (.string a)) (hbb : w.cell? ⟨Bb, 0, none⟩ = some (.string b)) (hGa : Ba ≠ G) (hGb : Bb ≠ G) (hbase : base ≤ G) (hbw : base ≤ w.heap.size) :
  Calls Try.prog 42 #[.slice (some ⟨G, 0, none⟩) l.length cap, .func (.func 44) #[] #[.pointer (some ⟨Bb, 0, none⟩), .pointer (some ⟨Ba, 0, none⟩)]] w fun e w' => ∃ c', e = .returned (.slice (some ⟨G, 0, none⟩) (l.filter (keepB a b)).length c') ∧ (l.filter (keepB a b)).length ≤ c' ∧ Kd.C k44 w' (some ⟨G, 0, none⟩) (l.filter (keepB a b)).length (l.filter (keepB a b)) ∧ Below base w w' := by
 have HROW := Aside0.mk hrow
 have HBK := Aside0.mk hb
 have HA := Aside0.mk ha
 have HBB := Aside0.mk hbb
 have HC := Aside0.mk (hrow.C hb (by omega))
 clear hrow hb ha hbb
 rcases idxO_cases a b l 0 with ⟨h1, h2⟩ | ⟨m, h1, h2, h3, h4⟩
 ·have H1 := Aside0.mk h1
  rw [h2]
  clear h1 h2
  go_enter Try.func42, Try.ntmps42
  go_wp2_with (go_at_call 57; refine (indexO_calls _ cap l a b Ba Bb _ HC.out hl HA.out HBB.out).mono ?_; rintro e w1 ⟨rfl, hb⟩; rw [H1.out]; have HB1 := Aside0.mk hb; clear hb)
  go_ret
  exact ⟨cap, rfl, hcap, Kd.C_below HC.out HB1.out, HB1.out.mono hbw⟩
 ·rw [Nat.zero_add] at h1
  have H1 := Aside0.mk h1
  have H3 := Aside0.mk h3
  have H4 := Aside0.mk h4
  clear h1 h3 h4
  go_enter Try.func42, Try.ntmps42
  go_wp2_with (go_at_call 57; refine (indexO_calls _ cap l a b Ba Bb _ HC.out hl HA.out HBB.out).mono ?_; rintro e w1 ⟨rfl, hb⟩; rw [H1.out]; have HB1 := Aside0.mk hb; clear hb)
  have HA1 := Aside0.mk (below_cell HB1.out HA.out)
  have HBB1 := Aside0.mk (below_cell HB1.out HBB.out)
  have HBK1 := Aside0.mk ((HB1.out.block G (Array.getElem?_eq_some_iff.1 HBK.out).1).trans HBK.out)
  go_loopg [5, 6] l.length (fun kq v5 v6 w' => ∃ (i j : Nat), v5 = .int .i64 i ∧ v6 = .int .i64 j ∧ i < j ∧ j ≤ l.length ∧ Aside0 (kq = l.length - j + (m + 1)) ∧ Aside0 (DelAt G cs0.size base a b l i j w w') ∧ Aside0 (w'.cell? ⟨Ba, 0, none⟩ = some (.string a)) ∧ Aside0 (w'.cell? ⟨Bb, 0, none⟩ = some (.string b)))
  case atStart => exact ⟨m, m + 1, by first | rfl | (congr 1; omega) | (simp; done), by first | rfl | (congr 1; omega) | (simp; done), by omega, by omega, ⟨by omega⟩, ⟨⟨l, cs0, HBK1.out, HROW.out, rfl, rfl, H4.out.symm, rfl, HB1.out.mono hbw⟩⟩, HA1, HBB1⟩
  case round =>
   obtain ⟨i, j, rfl, rfl, hij, hj, HK, HD, HAr, HBr⟩ := hrel
   obtain ⟨ys, cs, hG, hR, hS, hL, hT, hDr, hBl⟩ := HD.out
   have HG := Aside0.mk hG
   have HR := Aside0.mk hR
   have HT := Aside0.mk hT
   have HDr := Aside0.mk hDr
   have HBl := Aside0.mk hBl
   clear hG hR hT hDr hBl
   by_cases hlt : j < l.length
   ·obtain ⟨k1, rfl⟩ : ∃ k1, gk = k1 + 1 := ⟨gk - 1, by have := HK.out; omega⟩
    have HK1 := Aside0.mk (show k1 = l.length - (j + 1) + (m + 1) by have := HK.out; omega)
    obtain ⟨x, hx⟩ : ∃ x, l[j]? = some x := ⟨l[j], List.getElem?_eq_getElem hlt⟩
    have hy : ys[j]? = some x := by
     have e := congrArg (fun t : List S44 => t[0]?) HDr.out
     simp only [List.getElem?_drop, Nat.add_zero] at e
     rw [e, hx]
    have HX := Aside0.mk hx
    have x0 := (blkc HG.out (j * 5) (by simpa using HR.out j x hy 0 _ rfl)).1
    have x1 := (blkc HG.out (j * 5 + 1) (HR.out j x hy 1 _ rfl)).1
    have x2 := (blkc HG.out (j * 5 + 2) (HR.out j x hy 2 _ rfl)).1
    have x3 := (blkc HG.out (j * 5 + 3) (HR.out j x hy 3 _ rfl)).1
    have x4 := (blkc HG.out (j * 5 + 4) (HR.out j x hy 4 _ rfl)).1
    have hal := below_alloc (Below.refl wr.heap.size wr) (.cells #[.int .i64 x.f0, .int .i64 x.f1, .int .i64 x.f2, .string x.f3, .string x.f4] 44)
    have HAL := Aside0.mk hal
    have hbox := World.alloc_heap_new wr (.cells #[.int .i64 x.f0, .int .i64 x.f1, .int .i64 x.f2, .string x.f3, .string x.f4] 44)
    have HBX := Aside0.mk hbox
    have HAw := Aside0.mk (below_cell hal HAr.out)
    have HBw := Aside0.mk (below_cell hal HBr.out)
    clear hx hy hal hbox
    have htk : (l.take (j + 1)).filter (keepB a b) = ys.take i ++ (if keepB a b x = true then [x] else []) := by
     rw [List.take_add_one, HX.out, Option.toList_some, List.filter_append, ← HT.out]
     simp [List.filter_cons]
    have HTK := Aside0.mk htk
    have hdr2 : ys.drop (j + 1) = l.drop (j + 1) := by
     have e := congrArg (fun t : List S44 => t.drop 1) HDr.out
     simp only [List.drop_drop] at e
     exact e
    have HDR2 := Aside0.mk hdr2
    clear htk hdr2
    by_cases hq : outs a b x = true
    ·go_wp2_with (go_at_call 44; refine (clo44_calls x a b Ba Bb _ HAw.out HBw.out).mono ?_; rintro e w2 ⟨rfl, hb⟩; rw [hq]; have HB2 := Aside0.mk (HAL.out.trans (hb.mono HAL.out.size)); clear hb)
     go_roundg k1
     case measure => omega
     case rel => exact ⟨i, j + 1, rfl, by first | rfl | (congr 1; omega) | (simp; done), by omega, by omega, HK1, ⟨⟨ys, cs, (HB2.out.block G (Array.getElem?_eq_some_iff.1 HG.out).1).trans HG.out, HR.out, hS, hL, by rw [HTK.out, if_neg (by simp [keepB, hq]), List.append_nil], HDR2.out, HBl.out.trans (HB2.out.mono (by have := HBl.out.size; omega))⟩⟩, ⟨below_cell HB2.out HAr.out⟩, ⟨below_cell HB2.out HBr.out⟩⟩
    ·have hq := Bool.eq_false_iff.mpr hq
     have hIS : i * 5 + 5 ≤ cs.size := by omega
     go_wp2_with (go_at_call 44; refine (clo44_calls x a b Ba Bb _ HAw.out HBw.out).mono ?_; rintro e w2 ⟨rfl, hb⟩; rw [hq]; have HB2 := Aside0.mk (HAL.out.trans (hb.mono HAL.out.size)); have hbx := (hb.block wr.heap.size (by simp)).trans HBX.out; have hg2 := (HB2.out.block G (Array.getElem?_eq_some_iff.1 HG.out).1).trans HG.out; have HG2 := Aside0.mk hg2; have u0 := (blkc hbx 0 rfl).1; have u1 := (blkc hbx 1 rfl).1; have u2 := (blkc hbx 2 rfl).1; have u3 := (blkc hbx 3 rfl).1; have u4 := (blkc hbx 4 rfl).1; obtain ⟨z0, f0⟩ := blkc hg2 (i * 5) (Array.getElem?_eq_getElem (by omega)); obtain ⟨z1, f1⟩ := blkc hg2 (i * 5 + 1) (Array.getElem?_eq_getElem (by omega)); obtain ⟨z2, f2⟩ := blkc hg2 (i * 5 + 2) (Array.getElem?_eq_getElem (by omega)); obtain ⟨z3, f3⟩ := blkc hg2 (i * 5 + 3) (Array.getElem?_eq_getElem (by omega)); obtain ⟨z4, f4⟩ := blkc hg2 (i * 5 + 4) (Array.getElem?_eq_getElem (by omega)); obtain ⟨v1, g1⟩ := set_some (p := ⟨G, i * 5, none⟩) (x := .int .i64 x.f0) z1; obtain ⟨v2, g2⟩ := set_some (p := ⟨G, i * 5, none⟩) (x := .int .i64 x.f0) z2; obtain ⟨v3, g3⟩ := set_some (p := ⟨G, i * 5, none⟩) (x := .int .i64 x.f0) z3; obtain ⟨v4, g4⟩ := set_some (p := ⟨G, i * 5, none⟩) (x := .int .i64 x.f0) z4; obtain ⟨v5, g5⟩ := set_some (p := ⟨G, i * 5 + 1, none⟩) (x := .int .i64 x.f1) g2; obtain ⟨v6, g6⟩ := set_some (p := ⟨G, i * 5 + 1, none⟩) (x := .int .i64 x.f1) g3; obtain ⟨v7, g7⟩ := set_some (p := ⟨G, i * 5 + 1, none⟩) (x := .int .i64 x.f1) g4; obtain ⟨v8, g8⟩ := set_some (p := ⟨G, i * 5 + 2, none⟩) (x := .int .i64 x.f2) g6; obtain ⟨v9, g9⟩ := set_some (p := ⟨G, i * 5 + 2, none⟩) (x := .int .i64 x.f2) g7; obtain ⟨v10, g10⟩ := set_some (p := ⟨G, i * 5 + 3, none⟩) (x := .string x.f3) g9; clear hb hbx hg2)
     go_roundg k1
     case measure => omega
     case rel => exact ⟨i + 1, j + 1, by first | rfl | (congr 1; omega) | (simp; done), by first | rfl | (congr 1; omega) | (simp; done), by omega, by omega, HK1, ⟨⟨ys.set i x, _, five_at HG2.out (i * 5) x, HR.out.put i (by omega) (by omega) x, by simpa using hS, by rw [List.length_set]; exact hL, by rw [HTK.out, if_pos (by simp [keepB, hq])]; exact take_put ys i x (by omega), by rw [← HDR2.out]; exact drop_put ys i x (j + 1) (by omega), five_atB (HBl.out.trans (HB2.out.mono (by have := HBl.out.size; omega))) hbase (i * 5) x⟩⟩, ⟨five_atC (below_cell HB2.out HAr.out) hGa (i * 5) x⟩, ⟨five_atC (below_cell HB2.out HBr.out) hGb (i * 5) x⟩⟩
   ·obtain rfl : j = l.length := by omega
    obtain ⟨W', hclr, hgw, cs', hG', hS', hk'⟩ := clear_row (i := i) (m := l.length - i) (c := cap - i) 0 HG.out (by omega)
    have hclr2 : ∀ ty, (Builtin.clear_ #[42] ty #[.slice (some ⟨G, i * 5, none⟩) (l.length - i) (cap - i)]).run Try.prog wr = .ok (.tuple #[]) W' := fun _ => hclr
    have HG' := Aside0.mk hG'
    have HK' := Aside0.mk hk'
    have HGW := Aside0.mk hgw
    clear hclr hG' hk' hgw
    have hil : decide (i ≤ l.length) = true := decide_eq_true (by omega)
    have hic : decide (i ≤ cap) = true := decide_eq_true (by omega)
    have hne : ¬ cap = i := by omega
    go_wp2
    have hf : ys.take i = l.filter (keepB a b) := by have h := HT.out; rwa [List.take_length] at h
    have hn : (l.filter (keepB a b)).length = i := by rw [← hf, List.length_take]; omega
    go_ret
    refine ⟨cap, by rw [hn]; rfl, by omega, ?_, HBl.out.grown HGW.out (by have := HBl.out.size; omega) (fun k e => by obtain rfl := Option.some.inj e; exact hbase)⟩
    refine Row44.C ?_ HG'.out (by omega)
    rw [← hf]
    exact (HR.out.take i).same i (by rw [List.length_take]; omega) HK'.out
theorem C_no {W : World} : Kd.C k44 W none 0 [] := ⟨rfl, by decide, fun h => absurd h (by decide)⟩
set_option maxRecDepth 100000 in
set_option maxHeartbeats 4000000 in
theorem deleteNil_calls (a b : ByteArray) (Ba Bb : Nat) (w : World) (ha : w.cell? ⟨Ba, 0, none⟩ = some (.string a)) (hbb : w.cell? ⟨Bb, 0, none⟩ = some (.string b)) :
  Calls Try.prog 42 #[.slice none 0 0, .func (.func 44) #[] #[.pointer (some ⟨Bb, 0, none⟩), .pointer (some ⟨Ba, 0, none⟩)]] w fun e w' => e = .returned (.slice none 0 0) ∧ Below w.heap.size w w' := by
 have HA := Aside0.mk ha
 have HBB := Aside0.mk hbb
 clear ha hbb
 go_enter Try.func42, Try.ntmps42
 go_wp2_with (go_at_call 57; refine (indexO_calls none 0 [] a b Ba Bb _ C_no (by decide) HA.out HBB.out).mono ?_; rintro e w1 ⟨rfl, hb⟩; rw [show idxO a b [] 0 = -1 from rfl]; have HB1 := Aside0.mk hb; clear hb)
 go_ret
 exact ⟨rfl, HB1.out⟩
def meetF (l : List S44) (a b : ByteArray) : List S44 := l.filter (keepB a b)
set_option maxRecDepth 100000 in
set_option maxHeartbeats 4000000 in
theorem meet_calls (A : Option Addr) (c : Nat) (l : List S44) (a b : ByteArray) (w : World) (hC : Kd.C k44 w A l.length l) (hc : l.length ≤ c) (hbd : l.length * 56 ≤ 140737488355328) :
  Calls Try.prog 24 #[.slice A l.length c, .string a, .string b] w fun e w' => ∃ A' c', e = .returned (.slice A' (meetF l a b).length c') ∧ (meetF l a b).length ≤ c' ∧ Kd.C k44 w' A' (meetF l a b).length (meetF l a b) ∧ Below w.heap.size w w' := by
 have hb2 := below_alloc (below_alloc (Below.refl w.heap.size w) (.cells #[.string a] 9)) (.cells #[.string b] 9)
 have hBa : ((w.alloc (.cells #[.string a] 9)).alloc (.cells #[.string b] 9)).cell? ⟨w.heap.size, 0, none⟩ = some (.string a) := below_cell (below_alloc (Below.refl _ _) _) (blkc (World.alloc_heap_new w (.cells #[.string a] 9)) 0 rfl).1
 have hBb : ((w.alloc (.cells #[.string a] 9)).alloc (.cells #[.string b] 9)).cell? ⟨w.heap.size + 1, 0, none⟩ = some (.string b) := by
  have h := World.alloc_heap_new (w.alloc (.cells #[.string a] 9)) (.cells #[.string b] 9)
  rw [World.size_alloc] at h
  exact (blkc h 0 rfl).1
 have HC := Aside0.mk (Kd.C_below hC hb2)
 have HB2 := Aside0.mk hb2
 have HBa := Aside0.mk hBa
 have HBb := Aside0.mk hBb
 clear hC hb2 hBa hBb
 go_enter Try.func24, Try.ntmps24
 go_wp2_with (go_at_call 43; refine (clone_calls A c l _ HC.out hc hbd).mono ?_; rintro e w1 ⟨v, rfl, hr, hb⟩; have HR := Aside0.mk hr; have HB1 := Aside0.mk hb; clear hr hb)
 have HA1 := Aside0.mk (below_cell HB1.out HBa.out)
 have HBb1 := Aside0.mk (below_cell HB1.out HBb.out)
 have hsz2 : ((w.alloc (.cells #[.string a] 9)).alloc (.cells #[.string b] 9)).heap.size = w.heap.size + 1 + 1 := by rw [World.size_alloc, World.size_alloc]
 have HBW := Aside0.mk (HB2.out.trans (HB1.out.mono HB2.out.size))
 rcases row_of HR.out with ⟨rfl, rfl⟩ | ⟨G, cap, cs, rfl, hG, hb, hsz, hcap, hrow⟩
 ·refine (deleteNil_calls a b _ _ _ HA1.out HBb1.out).mono ?_
  rintro e w2 ⟨rfl, hb⟩
  have HBZ := Aside0.mk (HBW.out.trans (hb.mono HBW.out.size))
  clear hb
  go_wp2
  go_ret
  exact ⟨none, 0, rfl, Nat.le_refl _, C_no, HBZ.out⟩
 ·rw [hsz2] at hG
  refine (deleteFunc_calls G cap w.heap.size cs l a b w.heap.size (w.heap.size + 1) w1 hb hrow hsz hcap (by omega) HA1.out HBb1.out (by omega) (by omega) (by omega) HBW.out.size).mono ?_
  rintro e w2 ⟨c', rfl, hc', hC', hb'⟩
  have HC' := Aside0.mk hC'
  have HL' := Aside0.mk hc'
  have HBZ := Aside0.mk (HBW.out.trans hb')
  clear hC' hc' hb' hb hrow
  go_wp2
  go_ret
  exact ⟨_, c', rfl, HL'.out, HC'.out, HBZ.out⟩
end Go.Proofs.Ytdibolblgchpdaa.P
