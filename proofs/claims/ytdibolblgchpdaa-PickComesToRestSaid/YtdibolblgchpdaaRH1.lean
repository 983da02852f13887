/- Contracts proved by hand: manifest.Check. -/
import Derived.Test.YtdibolblgchpdaaRM1
import Derived.Test.YtdibolblgchpdaaRPL0a
import Derived.RangeFuncWrites
namespace Go.Proofs.Ytdibolblgchpdaa.P
open Go.RowKit Go.Proofs.YtdibolblgchpdaaW.PrintWords Go.Proofs.YtdibolblgchpdaaW.PrintLast Go.Proofs.YtdibolblgchpdaaW.PrintMore
set_option linter.unusedVariables false
set_option linter.unusedSimpArgs false
theorem blk_cell1 {W : World} {g t : Nat} {cs : Array Value} (h : W.heap[g]? = some (.cells cs t (0, 0))) (j : Nat) {v : Value} (hv : cs[j]? = some v) : W.cell? ⟨g, j, none⟩ = some v ∧ W.frozen? ⟨g, j, none⟩ = false := by
 unfold World.cell? World.frozen?
 constructor
 ·simpa [h] using hv
 ·simp [h]
/-- May a table be? -/
def fileR (t : S44) : Bool := (manifest_fileRight.f t.f0 t.f1 t.f2 t.f3 t.f4).getD false
theorem keyRight_some (s : ByteArray) : ∃ b, manifest_keyRight.f s = some b := by
 unfold manifest_keyRight.f
 split <;> (try split) <;> exact ⟨_, rfl⟩
theorem fileR_val (t : S44) : manifest_fileRight.f t.f0 t.f1 t.f2 t.f3 t.f4 = some (fileR t) := by
 have h : ∃ b, manifest_fileRight.f t.f0 t.f1 t.f2 t.f3 t.f4 = some b := by
  obtain ⟨b1, h1⟩ := keyRight_some t.f3
  obtain ⟨b2, h2⟩ := keyRight_some t.f4
  unfold manifest_fileRight.f
  rw [h1, h2]
  simp only [Option.bind_some]
  repeat' split
  all_goals exact ⟨_, rfl⟩
 obtain ⟨b, h⟩ := h
 unfold fileR
 rw [h]
 rfl
/-- May two tables stand one behind the other in a level? -/
def adjR (i : Nat) (a b : S44) : Bool := if i = 0 then decide (a.f0 < b.f0) else Op.bytesLess a.f4.toList b.f3.toList
def ordF (i : Nat) : List S44 → Bool
 | a :: b :: l => adjR i a b && ordF i (b :: l)
 | _ => true
theorem rd44_getElem (l : List S44) (i : Nat) (h : i < l.length) : rd_T44 l (i : Int) = l[i] := by
 simp only [rd_T44, Int.toNat_natCast, List.getD_eq_getElem?_getD, List.getElem?_eq_getElem h]
 rfl
theorem ord0 (lv : Nat) (l : List S44) (hl : l.length ≤ 9223372036854775807) (d : Nat) : ∀ i : Nat, i + 1 ≤ l.length → l.length - (i + 1) = d →
  Ev (fun k => manifest_ordered.l0 k (lv : Int) l ((i + 1 : Nat) : Int)) (ordF lv (l.drop i)) := by
 induction d with
 | zero =>
  intro i hi hd
  have e : l.drop i = [l[i]'(by omega)] := by
   rw [List.drop_eq_getElem_cons (by omega), List.drop_eq_nil_of_le (by omega)]
  rw [e]
  refine Ev.step (f := fun _ => some true) (fun k => ?_) (Ev.now _)
  simp only [manifest_ordered.l0]
  rw [if_neg (by omega)]
 | succ d ih =>
  intro i hi hd
  have hi1 : i + 1 < l.length := by omega
  have w1 : wrap64 (((i + 1 : Nat) : Int) - 1) = (i : Int) := by unfold wrap64; omega
  have w2 : wrap64 (((i + 1 : Nat) : Int) + 1) = ((i + 1 + 1 : Nat) : Int) := by unfold wrap64; omega
  have c1 : ((i + 1 : Nat) : Int) < (l.length : Int) := by omega
  have c2 : (0 : Int) ≤ (i : Int) := by omega
  have c3 : (i : Int) < (l.length : Int) := by omega
  have c4 : (0 : Int) ≤ ((i + 1 : Nat) : Int) := by omega
  have e : l.drop i = l[i] :: l[i + 1] :: l.drop (i + 1 + 1) := by
   rw [List.drop_eq_getElem_cons (by omega), List.drop_eq_getElem_cons (by omega)]
  have e2 : l.drop (i + 1) = l[i + 1] :: l.drop (i + 1 + 1) := by rw [List.drop_eq_getElem_cons (by omega)]
  have hs : ordF lv (l.drop i) = (adjR lv l[i] l[i + 1] && ordF lv (l.drop (i + 1))) := by rw [e, e2]; rfl
  rw [hs]
  have hstep := ih (i + 1) (by omega) (by omega)
  by_cases h0 : lv = 0
  ·subst h0
   have n1 : ¬ ((0 : Nat) : Int) > 0 := by omega
   have n2 : ((0 : Nat) : Int) = 0 := rfl
   by_cases hb : l[i].f0 < l[i + 1].f0
   ·have ha : adjR 0 l[i] l[i + 1] = true := by unfold adjR; rw [if_pos rfl]; exact decide_eq_true hb
    rw [ha, Bool.true_and]
    refine Ev.step (f := fun k => manifest_ordered.l0 k ((0 : Nat) : Int) l ((i + 1 + 1 : Nat) : Int)) (fun k => ?_) hstep
    simp only [manifest_ordered.l0]
    rw [w1, w2, if_pos c1, if_pos n2, if_pos c2, if_pos c3, if_pos c4, rd44_getElem l i (by omega), rd44_getElem l (i + 1) hi1, if_neg (by omega), if_neg n1]
   ·have ha : adjR 0 l[i] l[i + 1] = false := by unfold adjR; rw [if_pos rfl]; exact decide_eq_false hb
    rw [ha, Bool.false_and]
    refine Ev.step (f := fun _ => some false) (fun k => ?_) (Ev.now _)
    simp only [manifest_ordered.l0]
    rw [w1, w2, if_pos c1, if_pos n2, if_pos c2, if_pos c3, if_pos c4, rd44_getElem l i (by omega), rd44_getElem l (i + 1) hi1, if_pos (by omega)]
  ·have n1 : (lv : Int) > 0 := by omega
   have n2 : ¬ (lv : Int) = 0 := by omega
   by_cases hb : Op.bytesLess l[i].f4.toList l[i + 1].f3.toList = true
   ·have ha : adjR lv l[i] l[i + 1] = true := by unfold adjR; rw [if_neg h0]; exact hb
    rw [ha, Bool.true_and]
    refine Ev.step (f := fun k => manifest_ordered.l0 k (lv : Int) l ((i + 1 + 1 : Nat) : Int)) (fun k => ?_) hstep
    simp only [manifest_ordered.l0]
    rw [w1, w2, if_pos c1, if_neg n2, if_pos n1, if_pos c2, if_pos c3, if_pos c4, rd44_getElem l i (by omega), rd44_getElem l (i + 1) hi1, if_pos hb]
   ·have ha : adjR lv l[i] l[i + 1] = false := by unfold adjR; rw [if_neg h0]; exact Bool.eq_false_iff.mpr hb
    rw [ha, Bool.false_and]
    refine Ev.step (f := fun _ => some false) (fun k => ?_) (Ev.now _)
    simp only [manifest_ordered.l0]
    rw [w1, w2, if_pos c1, if_neg n2, if_pos n1, if_pos c2, if_pos c3, if_pos c4, rd44_getElem l i (by omega), rd44_getElem l (i + 1) hi1, if_neg hb]
theorem ord_ev (lv : Nat) (l : List S44) (hl : l.length ≤ 9223372036854775807) : Ev (fun k => manifest_ordered.f k (lv : Int) l) (ordF lv l) := by
 unfold manifest_ordered.f
 cases h : l with
 | nil =>
  refine Ev.step (f := fun _ => some true) (fun k => ?_) (Ev.now _)
  simp only [manifest_ordered.l0]
  rw [if_neg (by simp)]
 | cons a t =>
  have h1 := ord0 lv (a :: t) (by rw [← h]; exact hl) t.length 0 (by simp) (by simp)
  exact h1
/-- What Check has found behind some tables: is it wrong; which numbers are known. -/
def stT (st : Bool × List Int) (t : S44) : Bool × List Int := (st.1 || !fileR t || decide (t.f0 ∈ st.2) || decide ((2147483648 : Int) ≤ t.f0), if t.f0 ∈ st.2 then st.2 else st.2 ++ [t.f0])
def stL (st : Bool × List Int) (i : Nat) (l : List S44) : Bool × List Int := l.foldl stT (st.1 || !ordF i l, st.2)
def wrong0 (ls : List (List S44)) : Bool := decide (7 < ls.length) || (decide (0 < ls.length) && decide ((ls.getD (ls.length - 1) []).length = 0))
def stTo (ls : List (List S44)) : Nat → Bool × List Int
 | 0 => (wrong0 ls, [])
 | j + 1 => stL (stTo ls j) j (ls.getD j [])
def checkF (ls : List (List S44)) : Int := if ((stTo ls ls.length).1 || decide (1024 < (stTo ls ls.length).2.length)) = true then 110 else 0
theorem below_keep {W W' : World} {a : Addr} {v : Value} (hb : Below W.heap.size W W') (h : W.cell? a = some v) : W'.cell? a = some v := (hb.cell (World.block_lt_of_cell? _ _ h)).trans h
/-- Check's world behind some tables: the state's box and the map. -/
structure ChkAt (wb : World) (B : Nat) (S : List Int) (W : World) : Prop where
 below : Below wb.heap.size wb W
 set : SetM W B S
 ge : wb.heap.size ≤ B
theorem ChkAt.next {wb W W' : World} {B : Nat} {S : List Int} (h : ChkAt wb B S W) (hb : Below W.heap.size W W') : ChkAt wb B S W' :=
 ⟨h.below.trans (hb.mono h.below.size), h.set.move (hb.block B h.set.lt), h.ge⟩
theorem ChkAt.store {wb W W' : World} {B : Nat} {S S' : List Int} (h : ChkAt wb B S W) (hs : SetM W' B S') (hg : W.grownBy W' (some B)) : ChkAt wb B S' W' :=
 ⟨h.below.grown hg h.below.size (fun k e => by obtain rfl := Option.some.inj e; exact h.ge), hs, h.ge⟩
theorem wrap_up (n m : Nat) (h : n < m) (hm : m ≤ 9223372036854775807) : wrap64 ((n : Int) + 1) = (n : Int) + 1 := by unfold wrap64; omega
theorem wrap_dn (n : Nat) (h : 0 < n) (hm : n ≤ 9223372036854775807) : wrap64 ((n : Int) - 1) = ((n - 1 : Nat) : Int) := by unfold wrap64; omega
theorem chk_start {w : World} (o : Obj) : ChkAt (w.alloc o) (w.heap.size + 1) [] ((w.alloc o).alloc (.map #[] 0)) := by
 have h := SetM.made (w.alloc o)
 rw [World.size_alloc] at h
 exact ⟨below_alloc (Below.refl _ _) _, h, by rw [World.size_alloc]; exact Nat.le_refl _⟩
set_option maxHeartbeats 8000000 in
set_option maxRecDepth 100000 in
theorem check_core (A0 : Option Addr) (c0 : Nat) (ls : List (List S44)) (w : World) (hr0 : Kd.C (Kd.slice 44 k44) w A0 ls.length ls) (hc0 : ls.length ≤ c0)
  (hcase : (7 < ls.length ∧ wrong0 ls = true) ∨ (ls.length = 0 ∧ wrong0 ls = false) ∨ (¬ 7 < ls.length ∧ 0 < ls.length ∧ (rd_L3 ls ((ls.length - 1 : Nat) : Int)).length = 0 ∧ wrong0 ls = true) ∨ (¬ 7 < ls.length ∧ 0 < ls.length ∧ ¬ (rd_L3 ls ((ls.length - 1 : Nat) : Int)).length = 0 ∧ wrong0 ls = false)) :
  Calls Try.prog 48 #[.agg #[.slice A0 ls.length c0, .int .i64 0, .int .i64 2147483648, .int .u64 0]] w fun e w' => e = .returned (.int .i64 (checkF ls)) ∧ Below w.heap.size w w' := by
 have hbw := below_alloc (Below.refl w.heap.size w) (.cells #[.slice A0 ls.length c0, .int .i64 0, .int .i64 2147483648, .int .u64 0] 74)
 have HR := Aside0.mk (Kd.C_below hr0 hbw)
 have HBW := Aside0.mk hbw
 clear hr0 hbw
 have hmm : ∀ w, (Instr.makeMap 92 none).run Try.prog w = .ok (.map (some w.heap.size)) (w.alloc (.map #[] 0)) := fun w => rfl
 rcases hcase with ⟨h7, hw⟩ | ⟨h7, hw⟩ | ⟨h7, h0, hl, hw⟩ | ⟨h7, h0, hl, hw⟩
 ·have d1 : decide ((7 : Int) < (ls.length : Int)) = true := decide_eq_true (by omega)
  have d1n : decide (7 < ls.length) = true := decide_eq_true h7
  have HW := Aside0.mk hw
  clear hw
  go_enter Try.func48, Try.ntmps48
  go_wp2
  go_loopg [5, 67] ls.length (fun kq v5 v67 w' => ∃ (i : Nat), v67 = .int .i64 i ∧ i ≤ ls.length ∧ v5 = .bool (stTo ls i).1 ∧ Aside0 (kq = ls.length - i) ∧ Aside0 (ChkAt (w.alloc (.cells #[.slice A0 ls.length c0, .int .i64 0, .int .i64 2147483648, .int .u64 0] 74)) (w.heap.size + 1) (stTo ls i).2 w'))
  case atStart => exact ⟨0, rfl, Nat.zero_le _, by rw [show (stTo ls 0).1 = _ from HW.out], ⟨rfl⟩, ⟨chk_start _⟩⟩
  case round =>
   obtain ⟨i, rfl, hi, rfl, HK, HC⟩ := hrel
   by_cases hlt : i < ls.length
   ·obtain ⟨k1, rfl⟩ : ∃ k1, gk = k1 + 1 := ⟨gk - 1, by have := HK.out; omega⟩
    have HK1 := Aside0.mk (show k1 = ls.length - (i + 1) by have := HK.out; omega)
    obtain ⟨ad, A1, c1, ea, x0, hl1, hC1⟩ := at_L3 HR.out (i : Int) (Int.natCast_nonneg _) (by omega)
    subst ea
    rw [Int.toNat_natCast] at x0
    have x0 := below_keep HC.out.below x0
    obtain ⟨l, hl⟩ : ∃ l, rd_L3 ls (i : Int) = l := ⟨_, rfl⟩
    rw [hl] at x0 hl1 hC1
    have HLS := Aside0.mk (show stTo ls (i + 1) = stL (stTo ls i) i l by rw [← hl]; simp [stTo, rd_L3])
    have HL1 := Aside0.mk hl1
    have HC1 := Aside0.mk hC1
    obtain ⟨b, hb⟩ : ∃ b, (stTo ls i).1 = b := ⟨_, rfl⟩
    obtain ⟨S, hS⟩ : ∃ S, (stTo ls i).2 = S := ⟨_, rfl⟩
    rw [hb]
    have HB := Aside0.mk hb
    have HS := Aside0.mk hS
    rw [hS] at HC
    obtain ⟨K, hK⟩ := ord_ev i l hC1.2.1
    have HO := Aside0.mk (hK K (Nat.le_refl _))
    have hwi := wrap_up i ls.length hlt HR.out.2.1
    clear hl hl1 hC1 hb hS hK
    cases b
    ·cases ho : ordF i l
     ·go_wp2_with (go_at_call 62; refine (manifest_ordered.calls K (i : Int) A1 c1 l (ordF i l) _ (Kd.C_below HC1.out HC.out.below) HL1.out HO.out).mono ?_; rintro e w5 ⟨rfl, hd⟩; rw [ho]; have HCI := Aside0.mk (HC.out.next hd.below); clear hd x0)
      go_loopg [5, 81] l.length (fun kq v5 v81 w' => ∃ (j : Nat), v81 = .int .i64 j ∧ j ≤ l.length ∧ v5 = .bool ((l.take j).foldl stT (true, S)).1 ∧ Aside0 (kq = l.length - j) ∧ Aside0 (ChkAt (w.alloc (.cells #[.slice (some ad) ls.length c0, .int .i64 0, .int .i64 2147483648, .int .u64 0] 74)) (w.heap.size + 1) ((l.take j).foldl stT (true, S)).2 w'))
      case atStart => exact ⟨0, rfl, Nat.zero_le _, rfl, ⟨rfl⟩, HCI⟩
      case round =>
       obtain ⟨j, rfl, hj, rfl, HKj, HCj⟩ := hrel
       obtain ⟨st, hst⟩ : ∃ st, (l.take j).foldl stT (true, S) = st := ⟨_, rfl⟩
       rw [hst]
       have HST := Aside0.mk hst
       rw [hst] at HCj
       clear hst
       obtain ⟨b2, S2⟩ := st
       dsimp only
       by_cases hjl : j < l.length
       ·obtain ⟨k2, rfl⟩ : ∃ k2, gk = k2 + 1 := ⟨gk - 1, by have := HKj.out; omega⟩
        have HK2 := Aside0.mk (show k2 = l.length - (j + 1) by have := HKj.out; omega)
        obtain ⟨ad2, ea2, y0, y1, y2, y3, y4⟩ := at_T44 (Kd.C_below HC1.out HCj.out.below) (j : Int) (Int.natCast_nonneg _) (by omega)
        subst ea2
        rw [Int.toNat_natCast] at y0 y1 y2 y3 y4
        obtain ⟨x, hx⟩ : ∃ x, rd_T44 l (j : Int) = x := ⟨_, rfl⟩
        rw [hx] at y0 y1 y2 y3 y4
        have hstep : (l.take (j + 1)).foldl stT (true, S) = stT (b2, S2) x := by
         rw [List.take_add_one, List.foldl_append, HST.out, List.getElem?_eq_getElem hjl, Option.toList_some, ← hx, rd44_getElem l j hjl]
         rfl
        have HSTEP := Aside0.mk hstep
        have hal := below_alloc (Below.refl wr.heap.size wr) (.cells #[.int .i64 x.f0, .int .i64 x.f1, .int .i64 x.f2, .string x.f3, .string x.f4] 44)
        have HAL := Aside0.mk hal
        have HBX := Aside0.mk (World.alloc_heap_new wr (.cells #[.int .i64 x.f0, .int .i64 x.f1, .int .i64 x.f2, .string x.f3, .string x.f4] 44))
        have HCA := Aside0.mk (HCj.out.next hal)
        have hwj := wrap_up j l.length hjl HC1.out.2.1
        clear hx hstep hal
        cases b2
        ·cases hf : fileR x
         ·go_wp2_with (go_at_call 63; refine (manifest_fileRight.calls x.f0 x.f1 x.f2 x.f3 x.f4 (fileR x) _ (fileR_val x)).mono ?_; rintro e w3 ⟨rfl, hb⟩; rw [hf]; have HC3 := Aside0.mk (HCA.out.next hb); have hbx := (hb.block wr.heap.size (by simp)).trans HBX.out; have q0 := (blk_cell1 hbx 0 rfl).1; obtain ⟨W', hup, hS', hg⟩ := HC3.out.set.update x.f0; have HS' := Aside0.mk hS'; have HG' := Aside0.mk hg; clear hS' hg hb hbx)
          go_roundg k2
          case measure => omega
          case rel => exact ⟨j + 1, by first | rfl | (congr 1; omega) | (simp [hwj]; done), by omega, by rw [HSTEP.out]; simp [stT, hf], HK2, ⟨by rw [HSTEP.out]; exact HC3.out.store HS'.out HG'.out⟩⟩
         ·by_cases hm : x.f0 ∈ S2
          ·go_wp2_with (go_at_call 63; refine (manifest_fileRight.calls x.f0 x.f1 x.f2 x.f3 x.f4 (fileR x) _ (fileR_val x)).mono ?_; rintro e w3 ⟨rfl, hb⟩; rw [hf]; have HC3 := Aside0.mk (HCA.out.next hb); have hbx := (hb.block wr.heap.size (by simp)).trans HBX.out; have q0 := (blk_cell1 hbx 0 rfl).1; obtain ⟨W', hup, hS', hg⟩ := HC3.out.set.update x.f0; have HS' := Aside0.mk hS'; have HG' := Aside0.mk hg; clear hS' hg hb hbx; have hlk := HC3.out.set.lookup x.f0; rw [decide_eq_true hm] at hlk; have n2 := below_keep HC3.out.below (blk_cell1 (World.alloc_heap_new w (.cells #[.slice (some ad) ls.length c0, .int .i64 0, .int .i64 2147483648, .int .u64 0] 74)) 2 rfl).1)
           go_roundg k2
           case measure => omega
           case rel => exact ⟨j + 1, by first | rfl | (congr 1; omega) | (simp [hwj]; done), by omega, by rw [HSTEP.out]; simp [stT, hf, hm], HK2, ⟨by rw [HSTEP.out]; exact HC3.out.store HS'.out HG'.out⟩⟩
          ·go_wp2_with (go_at_call 63; refine (manifest_fileRight.calls x.f0 x.f1 x.f2 x.f3 x.f4 (fileR x) _ (fileR_val x)).mono ?_; rintro e w3 ⟨rfl, hb⟩; rw [hf]; have HC3 := Aside0.mk (HCA.out.next hb); have hbx := (hb.block wr.heap.size (by simp)).trans HBX.out; have q0 := (blk_cell1 hbx 0 rfl).1; obtain ⟨W', hup, hS', hg⟩ := HC3.out.set.update x.f0; have HS' := Aside0.mk hS'; have HG' := Aside0.mk hg; clear hS' hg hb hbx; have hlk := HC3.out.set.lookup x.f0; rw [decide_eq_false hm] at hlk; have n2 := below_keep HC3.out.below (blk_cell1 (World.alloc_heap_new w (.cells #[.slice (some ad) ls.length c0, .int .i64 0, .int .i64 2147483648, .int .u64 0] 74)) 2 rfl).1)
           go_roundg k2
           case measure => omega
           case rel => exact ⟨j + 1, by first | rfl | (congr 1; omega) | (simp [hwj]; done), by omega, by rw [HSTEP.out]; simp [stT, hf, hm], HK2, ⟨by rw [HSTEP.out]; exact HC3.out.store HS'.out HG'.out⟩⟩
        ·obtain ⟨W', hup, hS', hg⟩ := HCA.out.set.update x.f0
         have HS' := Aside0.mk hS'
         have HG' := Aside0.mk hg
         clear hS' hg
         go_wp2
         go_roundg k2
         case measure => omega
         case rel => exact ⟨j + 1, by first | rfl | (congr 1; omega) | (simp [hwj]; done), by omega, by rw [HSTEP.out]; rfl, HK2, ⟨by rw [HSTEP.out]; exact HCA.out.store HS'.out HG'.out⟩⟩
       ·obtain rfl : j = l.length := by omega
        have hfin : stTo ls (i + 1) = (b2, S2) := by
         rw [HLS.out]
         unfold stL
         rw [HB.out, HS.out]
         have h := HST.out
         rw [List.take_length] at h
         exact (by rw [ho]; simpa using h)
        have HFIN := Aside0.mk hfin
        clear hfin
        go_wp2
        go_roundg k1
        case measure => omega
        case rel => exact ⟨i + 1, by first | rfl | (congr 1; omega) | (simp [hwi]; done), by omega, by rw [HFIN.out], HK1, ⟨by rw [HFIN.out]; exact HCj.out⟩⟩
     ·go_wp2_with (go_at_call 62; refine (manifest_ordered.calls K (i : Int) A1 c1 l (ordF i l) _ (Kd.C_below HC1.out HC.out.below) HL1.out HO.out).mono ?_; rintro e w5 ⟨rfl, hd⟩; rw [ho]; have HCI := Aside0.mk (HC.out.next hd.below); clear hd x0)
      go_loopg [5, 81] l.length (fun kq v5 v81 w' => ∃ (j : Nat), v81 = .int .i64 j ∧ j ≤ l.length ∧ v5 = .bool ((l.take j).foldl stT (false, S)).1 ∧ Aside0 (kq = l.length - j) ∧ Aside0 (ChkAt (w.alloc (.cells #[.slice (some ad) ls.length c0, .int .i64 0, .int .i64 2147483648, .int .u64 0] 74)) (w.heap.size + 1) ((l.take j).foldl stT (false, S)).2 w'))
      case atStart => exact ⟨0, rfl, Nat.zero_le _, rfl, ⟨rfl⟩, HCI⟩
      case round =>
       obtain ⟨j, rfl, hj, rfl, HKj, HCj⟩ := hrel
       obtain ⟨st, hst⟩ : ∃ st, (l.take j).foldl stT (false, S) = st := ⟨_, rfl⟩
       rw [hst]
       have HST := Aside0.mk hst
       rw [hst] at HCj
       clear hst
       obtain ⟨b2, S2⟩ := st
       dsimp only
       by_cases hjl : j < l.length
       ·obtain ⟨k2, rfl⟩ : ∃ k2, gk = k2 + 1 := ⟨gk - 1, by have := HKj.out; omega⟩
        have HK2 := Aside0.mk (show k2 = l.length - (j + 1) by have := HKj.out; omega)
        obtain ⟨ad2, ea2, y0, y1, y2, y3, y4⟩ := at_T44 (Kd.C_below HC1.out HCj.out.below) (j : Int) (Int.natCast_nonneg _) (by omega)
        subst ea2
        rw [Int.toNat_natCast] at y0 y1 y2 y3 y4
        obtain ⟨x, hx⟩ : ∃ x, rd_T44 l (j : Int) = x := ⟨_, rfl⟩
        rw [hx] at y0 y1 y2 y3 y4
        have hstep : (l.take (j + 1)).foldl stT (false, S) = stT (b2, S2) x := by
         rw [List.take_add_one, List.foldl_append, HST.out, List.getElem?_eq_getElem hjl, Option.toList_some, ← hx, rd44_getElem l j hjl]
         rfl
        have HSTEP := Aside0.mk hstep
        have hal := below_alloc (Below.refl wr.heap.size wr) (.cells #[.int .i64 x.f0, .int .i64 x.f1, .int .i64 x.f2, .string x.f3, .string x.f4] 44)
        have HAL := Aside0.mk hal
        have HBX := Aside0.mk (World.alloc_heap_new wr (.cells #[.int .i64 x.f0, .int .i64 x.f1, .int .i64 x.f2, .string x.f3, .string x.f4] 44))
        have HCA := Aside0.mk (HCj.out.next hal)
        have hwj := wrap_up j l.length hjl HC1.out.2.1
        clear hx hstep hal
        cases b2
        ·cases hf : fileR x
         ·go_wp2_with (go_at_call 63; refine (manifest_fileRight.calls x.f0 x.f1 x.f2 x.f3 x.f4 (fileR x) _ (fileR_val x)).mono ?_; rintro e w3 ⟨rfl, hb⟩; rw [hf]; have HC3 := Aside0.mk (HCA.out.next hb); have hbx := (hb.block wr.heap.size (by simp)).trans HBX.out; have q0 := (blk_cell1 hbx 0 rfl).1; obtain ⟨W', hup, hS', hg⟩ := HC3.out.set.update x.f0; have HS' := Aside0.mk hS'; have HG' := Aside0.mk hg; clear hS' hg hb hbx)
          go_roundg k2
          case measure => omega
          case rel => exact ⟨j + 1, by first | rfl | (congr 1; omega) | (simp [hwj]; done), by omega, by rw [HSTEP.out]; simp [stT, hf], HK2, ⟨by rw [HSTEP.out]; exact HC3.out.store HS'.out HG'.out⟩⟩
         ·by_cases hm : x.f0 ∈ S2
          ·go_wp2_with (go_at_call 63; refine (manifest_fileRight.calls x.f0 x.f1 x.f2 x.f3 x.f4 (fileR x) _ (fileR_val x)).mono ?_; rintro e w3 ⟨rfl, hb⟩; rw [hf]; have HC3 := Aside0.mk (HCA.out.next hb); have hbx := (hb.block wr.heap.size (by simp)).trans HBX.out; have q0 := (blk_cell1 hbx 0 rfl).1; obtain ⟨W', hup, hS', hg⟩ := HC3.out.set.update x.f0; have HS' := Aside0.mk hS'; have HG' := Aside0.mk hg; clear hS' hg hb hbx; have hlk := HC3.out.set.lookup x.f0; rw [decide_eq_true hm] at hlk; have n2 := below_keep HC3.out.below (blk_cell1 (World.alloc_heap_new w (.cells #[.slice (some ad) ls.length c0, .int .i64 0, .int .i64 2147483648, .int .u64 0] 74)) 2 rfl).1)
           go_roundg k2
           case measure => omega
           case rel => exact ⟨j + 1, by first | rfl | (congr 1; omega) | (simp [hwj]; done), by omega, by rw [HSTEP.out]; simp [stT, hf, hm], HK2, ⟨by rw [HSTEP.out]; exact HC3.out.store HS'.out HG'.out⟩⟩
          ·go_wp2_with (go_at_call 63; refine (manifest_fileRight.calls x.f0 x.f1 x.f2 x.f3 x.f4 (fileR x) _ (fileR_val x)).mono ?_; rintro e w3 ⟨rfl, hb⟩; rw [hf]; have HC3 := Aside0.mk (HCA.out.next hb); have hbx := (hb.block wr.heap.size (by simp)).trans HBX.out; have q0 := (blk_cell1 hbx 0 rfl).1; obtain ⟨W', hup, hS', hg⟩ := HC3.out.set.update x.f0; have HS' := Aside0.mk hS'; have HG' := Aside0.mk hg; clear hS' hg hb hbx; have hlk := HC3.out.set.lookup x.f0; rw [decide_eq_false hm] at hlk; have n2 := below_keep HC3.out.below (blk_cell1 (World.alloc_heap_new w (.cells #[.slice (some ad) ls.length c0, .int .i64 0, .int .i64 2147483648, .int .u64 0] 74)) 2 rfl).1)
           go_roundg k2
           case measure => omega
           case rel => exact ⟨j + 1, by first | rfl | (congr 1; omega) | (simp [hwj]; done), by omega, by rw [HSTEP.out]; simp [stT, hf, hm], HK2, ⟨by rw [HSTEP.out]; exact HC3.out.store HS'.out HG'.out⟩⟩
        ·obtain ⟨W', hup, hS', hg⟩ := HCA.out.set.update x.f0
         have HS' := Aside0.mk hS'
         have HG' := Aside0.mk hg
         clear hS' hg
         go_wp2
         go_roundg k2
         case measure => omega
         case rel => exact ⟨j + 1, by first | rfl | (congr 1; omega) | (simp [hwj]; done), by omega, by rw [HSTEP.out]; rfl, HK2, ⟨by rw [HSTEP.out]; exact HCA.out.store HS'.out HG'.out⟩⟩
       ·obtain rfl : j = l.length := by omega
        have hfin : stTo ls (i + 1) = (b2, S2) := by
         rw [HLS.out]
         unfold stL
         rw [HB.out, HS.out]
         have h := HST.out
         rw [List.take_length] at h
         exact (by rw [ho]; simpa using h)
        have HFIN := Aside0.mk hfin
        clear hfin
        go_wp2
        go_roundg k1
        case measure => omega
        case rel => exact ⟨i + 1, by first | rfl | (congr 1; omega) | (simp [hwi]; done), by omega, by rw [HFIN.out], HK1, ⟨by rw [HFIN.out]; exact HCj.out⟩⟩
    ·have HCI := HC
     go_wp2
     clear x0
     go_loopg [5, 81] l.length (fun kq v5 v81 w' => ∃ (j : Nat), v81 = .int .i64 j ∧ j ≤ l.length ∧ v5 = .bool ((l.take j).foldl stT (true, S)).1 ∧ Aside0 (kq = l.length - j) ∧ Aside0 (ChkAt (w.alloc (.cells #[.slice (some ad) ls.length c0, .int .i64 0, .int .i64 2147483648, .int .u64 0] 74)) (w.heap.size + 1) ((l.take j).foldl stT (true, S)).2 w'))
     case atStart => exact ⟨0, rfl, Nat.zero_le _, rfl, ⟨rfl⟩, HCI⟩
     case round =>
      obtain ⟨j, rfl, hj, rfl, HKj, HCj⟩ := hrel
      obtain ⟨st, hst⟩ : ∃ st, (l.take j).foldl stT (true, S) = st := ⟨_, rfl⟩
      rw [hst]
      have HST := Aside0.mk hst
      rw [hst] at HCj
      clear hst
      obtain ⟨b2, S2⟩ := st
      dsimp only
      by_cases hjl : j < l.length
      ·obtain ⟨k2, rfl⟩ : ∃ k2, gk = k2 + 1 := ⟨gk - 1, by have := HKj.out; omega⟩
       have HK2 := Aside0.mk (show k2 = l.length - (j + 1) by have := HKj.out; omega)
       obtain ⟨ad2, ea2, y0, y1, y2, y3, y4⟩ := at_T44 (Kd.C_below HC1.out HCj.out.below) (j : Int) (Int.natCast_nonneg _) (by omega)
       subst ea2
       rw [Int.toNat_natCast] at y0 y1 y2 y3 y4
       obtain ⟨x, hx⟩ : ∃ x, rd_T44 l (j : Int) = x := ⟨_, rfl⟩
       rw [hx] at y0 y1 y2 y3 y4
       have hstep : (l.take (j + 1)).foldl stT (true, S) = stT (b2, S2) x := by
        rw [List.take_add_one, List.foldl_append, HST.out, List.getElem?_eq_getElem hjl, Option.toList_some, ← hx, rd44_getElem l j hjl]
        rfl
       have HSTEP := Aside0.mk hstep
       have hal := below_alloc (Below.refl wr.heap.size wr) (.cells #[.int .i64 x.f0, .int .i64 x.f1, .int .i64 x.f2, .string x.f3, .string x.f4] 44)
       have HAL := Aside0.mk hal
       have HBX := Aside0.mk (World.alloc_heap_new wr (.cells #[.int .i64 x.f0, .int .i64 x.f1, .int .i64 x.f2, .string x.f3, .string x.f4] 44))
       have HCA := Aside0.mk (HCj.out.next hal)
       have hwj := wrap_up j l.length hjl HC1.out.2.1
       clear hx hstep hal
       cases b2
       ·cases hf : fileR x
        ·go_wp2_with (go_at_call 63; refine (manifest_fileRight.calls x.f0 x.f1 x.f2 x.f3 x.f4 (fileR x) _ (fileR_val x)).mono ?_; rintro e w3 ⟨rfl, hb⟩; rw [hf]; have HC3 := Aside0.mk (HCA.out.next hb); have hbx := (hb.block wr.heap.size (by simp)).trans HBX.out; have q0 := (blk_cell1 hbx 0 rfl).1; obtain ⟨W', hup, hS', hg⟩ := HC3.out.set.update x.f0; have HS' := Aside0.mk hS'; have HG' := Aside0.mk hg; clear hS' hg hb hbx)
         go_roundg k2
         case measure => omega
         case rel => exact ⟨j + 1, by first | rfl | (congr 1; omega) | (simp [hwj]; done), by omega, by rw [HSTEP.out]; simp [stT, hf], HK2, ⟨by rw [HSTEP.out]; exact HC3.out.store HS'.out HG'.out⟩⟩
        ·by_cases hm : x.f0 ∈ S2
         ·go_wp2_with (go_at_call 63; refine (manifest_fileRight.calls x.f0 x.f1 x.f2 x.f3 x.f4 (fileR x) _ (fileR_val x)).mono ?_; rintro e w3 ⟨rfl, hb⟩; rw [hf]; have HC3 := Aside0.mk (HCA.out.next hb); have hbx := (hb.block wr.heap.size (by simp)).trans HBX.out; have q0 := (blk_cell1 hbx 0 rfl).1; obtain ⟨W', hup, hS', hg⟩ := HC3.out.set.update x.f0; have HS' := Aside0.mk hS'; have HG' := Aside0.mk hg; clear hS' hg hb hbx; have hlk := HC3.out.set.lookup x.f0; rw [decide_eq_true hm] at hlk; have n2 := below_keep HC3.out.below (blk_cell1 (World.alloc_heap_new w (.cells #[.slice (some ad) ls.length c0, .int .i64 0, .int .i64 2147483648, .int .u64 0] 74)) 2 rfl).1)
          go_roundg k2
          case measure => omega
          case rel => exact ⟨j + 1, by first | rfl | (congr 1; omega) | (simp [hwj]; done), by omega, by rw [HSTEP.out]; simp [stT, hf, hm], HK2, ⟨by rw [HSTEP.out]; exact HC3.out.store HS'.out HG'.out⟩⟩
         ·go_wp2_with (go_at_call 63; refine (manifest_fileRight.calls x.f0 x.f1 x.f2 x.f3 x.f4 (fileR x) _ (fileR_val x)).mono ?_; rintro e w3 ⟨rfl, hb⟩; rw [hf]; have HC3 := Aside0.mk (HCA.out.next hb); have hbx := (hb.block wr.heap.size (by simp)).trans HBX.out; have q0 := (blk_cell1 hbx 0 rfl).1; obtain ⟨W', hup, hS', hg⟩ := HC3.out.set.update x.f0; have HS' := Aside0.mk hS'; have HG' := Aside0.mk hg; clear hS' hg hb hbx; have hlk := HC3.out.set.lookup x.f0; rw [decide_eq_false hm] at hlk; have n2 := below_keep HC3.out.below (blk_cell1 (World.alloc_heap_new w (.cells #[.slice (some ad) ls.length c0, .int .i64 0, .int .i64 2147483648, .int .u64 0] 74)) 2 rfl).1)
          go_roundg k2
          case measure => omega
          case rel => exact ⟨j + 1, by first | rfl | (congr 1; omega) | (simp [hwj]; done), by omega, by rw [HSTEP.out]; simp [stT, hf, hm], HK2, ⟨by rw [HSTEP.out]; exact HC3.out.store HS'.out HG'.out⟩⟩
       ·obtain ⟨W', hup, hS', hg⟩ := HCA.out.set.update x.f0
        have HS' := Aside0.mk hS'
        have HG' := Aside0.mk hg
        clear hS' hg
        go_wp2
        go_roundg k2
        case measure => omega
        case rel => exact ⟨j + 1, by first | rfl | (congr 1; omega) | (simp [hwj]; done), by omega, by rw [HSTEP.out]; rfl, HK2, ⟨by rw [HSTEP.out]; exact HCA.out.store HS'.out HG'.out⟩⟩
      ·obtain rfl : j = l.length := by omega
       have hfin : stTo ls (i + 1) = (b2, S2) := by
        rw [HLS.out]
        unfold stL
        rw [HB.out, HS.out]
        have h := HST.out
        rw [List.take_length] at h
        exact (by simpa using h)
       have HFIN := Aside0.mk hfin
       clear hfin
       go_wp2
       go_roundg k1
       case measure => omega
       case rel => exact ⟨i + 1, by first | rfl | (congr 1; omega) | (simp [hwi]; done), by omega, by rw [HFIN.out], HK1, ⟨by rw [HFIN.out]; exact HCj.out⟩⟩
   ·obtain rfl : i = ls.length := by omega
    obtain ⟨bf, hbf⟩ : ∃ bf, (stTo ls ls.length).1 = bf := ⟨_, rfl⟩
    rw [hbf]
    have HBF := Aside0.mk hbf
    have HBE := Aside0.mk (HBW.out.trans (HC.out.below.mono HBW.out.size))
    clear hbf
    cases bf
    ·have hln := fun ty => HC.out.set.len ty
     by_cases hgt : 1024 < (stTo ls ls.length).2.length
     ·have hg1 : decide ((1024 : Int) < ((stTo ls ls.length).2.length : Int)) = true := decide_eq_true (by omega)
      have hg2 : decide (1024 < (stTo ls ls.length).2.length) = true := decide_eq_true hgt
      have HF := Aside0.mk (show checkF ls = 110 by unfold checkF; rw [HBF.out, hg2]; rfl)
      go_wp2
      go_ret
      exact ⟨by rw [HF.out]; rfl, HBE.out⟩
     ·have hg1 : decide ((1024 : Int) < ((stTo ls ls.length).2.length : Int)) = false := decide_eq_false (by omega)
      have hg2 : decide (1024 < (stTo ls ls.length).2.length) = false := decide_eq_false hgt
      have HF := Aside0.mk (show checkF ls = 0 by unfold checkF; rw [HBF.out, hg2]; rfl)
      go_wp2
      go_ret
      exact ⟨by rw [HF.out]; rfl, HBE.out⟩
    ·have HF := Aside0.mk (show checkF ls = 110 by unfold checkF; rw [HBF.out]; rfl)
     go_wp2
     go_ret
     exact ⟨by rw [HF.out]; rfl, HBE.out⟩
 ·have d1 : decide ((7 : Int) < (ls.length : Int)) = false := decide_eq_false (by omega)
  have d1n : decide (7 < ls.length) = false := decide_eq_false (by omega)
  have d2 : decide ((0 : Int) < (ls.length : Int)) = false := decide_eq_false (by omega)
  have d2n : decide (0 < ls.length) = false := decide_eq_false (by omega)
  have HW := Aside0.mk hw
  clear hw h7
  go_enter Try.func48, Try.ntmps48
  go_wp2
  go_loopg [5, 67] ls.length (fun kq v5 v67 w' => ∃ (i : Nat), v67 = .int .i64 i ∧ i ≤ ls.length ∧ v5 = .bool (stTo ls i).1 ∧ Aside0 (kq = ls.length - i) ∧ Aside0 (ChkAt (w.alloc (.cells #[.slice A0 ls.length c0, .int .i64 0, .int .i64 2147483648, .int .u64 0] 74)) (w.heap.size + 1) (stTo ls i).2 w'))
  case atStart => exact ⟨0, rfl, Nat.zero_le _, by rw [show (stTo ls 0).1 = _ from HW.out], ⟨rfl⟩, ⟨chk_start _⟩⟩
  case round =>
   obtain ⟨i, rfl, hi, rfl, HK, HC⟩ := hrel
   by_cases hlt : i < ls.length
   ·obtain ⟨k1, rfl⟩ : ∃ k1, gk = k1 + 1 := ⟨gk - 1, by have := HK.out; omega⟩
    have HK1 := Aside0.mk (show k1 = ls.length - (i + 1) by have := HK.out; omega)
    obtain ⟨ad, A1, c1, ea, x0, hl1, hC1⟩ := at_L3 HR.out (i : Int) (Int.natCast_nonneg _) (by omega)
    subst ea
    rw [Int.toNat_natCast] at x0
    have x0 := below_keep HC.out.below x0
    obtain ⟨l, hl⟩ : ∃ l, rd_L3 ls (i : Int) = l := ⟨_, rfl⟩
    rw [hl] at x0 hl1 hC1
    have HLS := Aside0.mk (show stTo ls (i + 1) = stL (stTo ls i) i l by rw [← hl]; simp [stTo, rd_L3])
    have HL1 := Aside0.mk hl1
    have HC1 := Aside0.mk hC1
    obtain ⟨b, hb⟩ : ∃ b, (stTo ls i).1 = b := ⟨_, rfl⟩
    obtain ⟨S, hS⟩ : ∃ S, (stTo ls i).2 = S := ⟨_, rfl⟩
    rw [hb]
    have HB := Aside0.mk hb
    have HS := Aside0.mk hS
    rw [hS] at HC
    obtain ⟨K, hK⟩ := ord_ev i l hC1.2.1
    have HO := Aside0.mk (hK K (Nat.le_refl _))
    have hwi := wrap_up i ls.length hlt HR.out.2.1
    clear hl hl1 hC1 hb hS hK
    cases b
    ·cases ho : ordF i l
     ·go_wp2_with (go_at_call 62; refine (manifest_ordered.calls K (i : Int) A1 c1 l (ordF i l) _ (Kd.C_below HC1.out HC.out.below) HL1.out HO.out).mono ?_; rintro e w5 ⟨rfl, hd⟩; rw [ho]; have HCI := Aside0.mk (HC.out.next hd.below); clear hd x0)
      go_loopg [5, 81] l.length (fun kq v5 v81 w' => ∃ (j : Nat), v81 = .int .i64 j ∧ j ≤ l.length ∧ v5 = .bool ((l.take j).foldl stT (true, S)).1 ∧ Aside0 (kq = l.length - j) ∧ Aside0 (ChkAt (w.alloc (.cells #[.slice (some ad) ls.length c0, .int .i64 0, .int .i64 2147483648, .int .u64 0] 74)) (w.heap.size + 1) ((l.take j).foldl stT (true, S)).2 w'))
      case atStart => exact ⟨0, rfl, Nat.zero_le _, rfl, ⟨rfl⟩, HCI⟩
      case round =>
       obtain ⟨j, rfl, hj, rfl, HKj, HCj⟩ := hrel
       obtain ⟨st, hst⟩ : ∃ st, (l.take j).foldl stT (true, S) = st := ⟨_, rfl⟩
       rw [hst]
       have HST := Aside0.mk hst
       rw [hst] at HCj
       clear hst
       obtain ⟨b2, S2⟩ := st
       dsimp only
       by_cases hjl : j < l.length
       ·obtain ⟨k2, rfl⟩ : ∃ k2, gk = k2 + 1 := ⟨gk - 1, by have := HKj.out; omega⟩
        have HK2 := Aside0.mk (show k2 = l.length - (j + 1) by have := HKj.out; omega)
        obtain ⟨ad2, ea2, y0, y1, y2, y3, y4⟩ := at_T44 (Kd.C_below HC1.out HCj.out.below) (j : Int) (Int.natCast_nonneg _) (by omega)
        subst ea2
        rw [Int.toNat_natCast] at y0 y1 y2 y3 y4
        obtain ⟨x, hx⟩ : ∃ x, rd_T44 l (j : Int) = x := ⟨_, rfl⟩
        rw [hx] at y0 y1 y2 y3 y4
        have hstep : (l.take (j + 1)).foldl stT (true, S) = stT (b2, S2) x := by
         rw [List.take_add_one, List.foldl_append, HST.out, List.getElem?_eq_getElem hjl, Option.toList_some, ← hx, rd44_getElem l j hjl]
         rfl
        have HSTEP := Aside0.mk hstep
        have hal := below_alloc (Below.refl wr.heap.size wr) (.cells #[.int .i64 x.f0, .int .i64 x.f1, .int .i64 x.f2, .string x.f3, .string x.f4] 44)
        have HAL := Aside0.mk hal
        have HBX := Aside0.mk (World.alloc_heap_new wr (.cells #[.int .i64 x.f0, .int .i64 x.f1, .int .i64 x.f2, .string x.f3, .string x.f4] 44))
        have HCA := Aside0.mk (HCj.out.next hal)
        have hwj := wrap_up j l.length hjl HC1.out.2.1
        clear hx hstep hal
        cases b2
        ·cases hf : fileR x
         ·go_wp2_with (go_at_call 63; refine (manifest_fileRight.calls x.f0 x.f1 x.f2 x.f3 x.f4 (fileR x) _ (fileR_val x)).mono ?_; rintro e w3 ⟨rfl, hb⟩; rw [hf]; have HC3 := Aside0.mk (HCA.out.next hb); have hbx := (hb.block wr.heap.size (by simp)).trans HBX.out; have q0 := (blk_cell1 hbx 0 rfl).1; obtain ⟨W', hup, hS', hg⟩ := HC3.out.set.update x.f0; have HS' := Aside0.mk hS'; have HG' := Aside0.mk hg; clear hS' hg hb hbx)
          go_roundg k2
          case measure => omega
          case rel => exact ⟨j + 1, by first | rfl | (congr 1; omega) | (simp [hwj]; done), by omega, by rw [HSTEP.out]; simp [stT, hf], HK2, ⟨by rw [HSTEP.out]; exact HC3.out.store HS'.out HG'.out⟩⟩
         ·by_cases hm : x.f0 ∈ S2
          ·go_wp2_with (go_at_call 63; refine (manifest_fileRight.calls x.f0 x.f1 x.f2 x.f3 x.f4 (fileR x) _ (fileR_val x)).mono ?_; rintro e w3 ⟨rfl, hb⟩; rw [hf]; have HC3 := Aside0.mk (HCA.out.next hb); have hbx := (hb.block wr.heap.size (by simp)).trans HBX.out; have q0 := (blk_cell1 hbx 0 rfl).1; obtain ⟨W', hup, hS', hg⟩ := HC3.out.set.update x.f0; have HS' := Aside0.mk hS'; have HG' := Aside0.mk hg; clear hS' hg hb hbx; have hlk := HC3.out.set.lookup x.f0; rw [decide_eq_true hm] at hlk; have n2 := below_keep HC3.out.below (blk_cell1 (World.alloc_heap_new w (.cells #[.slice (some ad) ls.length c0, .int .i64 0, .int .i64 2147483648, .int .u64 0] 74)) 2 rfl).1)
           go_roundg k2
           case measure => omega
           case rel => exact ⟨j + 1, by first | rfl | (congr 1; omega) | (simp [hwj]; done), by omega, by rw [HSTEP.out]; simp [stT, hf, hm], HK2, ⟨by rw [HSTEP.out]; exact HC3.out.store HS'.out HG'.out⟩⟩
          ·go_wp2_with (go_at_call 63; refine (manifest_fileRight.calls x.f0 x.f1 x.f2 x.f3 x.f4 (fileR x) _ (fileR_val x)).mono ?_; rintro e w3 ⟨rfl, hb⟩; rw [hf]; have HC3 := Aside0.mk (HCA.out.next hb); have hbx := (hb.block wr.heap.size (by simp)).trans HBX.out; have q0 := (blk_cell1 hbx 0 rfl).1; obtain ⟨W', hup, hS', hg⟩ := HC3.out.set.update x.f0; have HS' := Aside0.mk hS'; have HG' := Aside0.mk hg; clear hS' hg hb hbx; have hlk := HC3.out.set.lookup x.f0; rw [decide_eq_false hm] at hlk; have n2 := below_keep HC3.out.below (blk_cell1 (World.alloc_heap_new w (.cells #[.slice (some ad) ls.length c0, .int .i64 0, .int .i64 2147483648, .int .u64 0] 74)) 2 rfl).1)
           go_roundg k2
           case measure => omega
           case rel => exact ⟨j + 1, by first | rfl | (congr 1; omega) | (simp [hwj]; done), by omega, by rw [HSTEP.out]; simp [stT, hf, hm], HK2, ⟨by rw [HSTEP.out]; exact HC3.out.store HS'.out HG'.out⟩⟩
        ·obtain ⟨W', hup, hS', hg⟩ := HCA.out.set.update x.f0
         have HS' := Aside0.mk hS'
         have HG' := Aside0.mk hg
         clear hS' hg
         go_wp2
         go_roundg k2
         case measure => omega
         case rel => exact ⟨j + 1, by first | rfl | (congr 1; omega) | (simp [hwj]; done), by omega, by rw [HSTEP.out]; rfl, HK2, ⟨by rw [HSTEP.out]; exact HCA.out.store HS'.out HG'.out⟩⟩
       ·obtain rfl : j = l.length := by omega
        have hfin : stTo ls (i + 1) = (b2, S2) := by
         rw [HLS.out]
         unfold stL
         rw [HB.out, HS.out]
         have h := HST.out
         rw [List.take_length] at h
         exact (by rw [ho]; simpa using h)
        have HFIN := Aside0.mk hfin
        clear hfin
        go_wp2
        go_roundg k1
        case measure => omega
        case rel => exact ⟨i + 1, by first | rfl | (congr 1; omega) | (simp [hwi]; done), by omega, by rw [HFIN.out], HK1, ⟨by rw [HFIN.out]; exact HCj.out⟩⟩
     ·go_wp2_with (go_at_call 62; refine (manifest_ordered.calls K (i : Int) A1 c1 l (ordF i l) _ (Kd.C_below HC1.out HC.out.below) HL1.out HO.out).mono ?_; rintro e w5 ⟨rfl, hd⟩; rw [ho]; have HCI := Aside0.mk (HC.out.next hd.below); clear hd x0)
      go_loopg [5, 81] l.length (fun kq v5 v81 w' => ∃ (j : Nat), v81 = .int .i64 j ∧ j ≤ l.length ∧ v5 = .bool ((l.take j).foldl stT (false, S)).1 ∧ Aside0 (kq = l.length - j) ∧ Aside0 (ChkAt (w.alloc (.cells #[.slice (some ad) ls.length c0, .int .i64 0, .int .i64 2147483648, .int .u64 0] 74)) (w.heap.size + 1) ((l.take j).foldl stT (false, S)).2 w'))
      case atStart => exact ⟨0, rfl, Nat.zero_le _, rfl, ⟨rfl⟩, HCI⟩
      case round =>
       obtain ⟨j, rfl, hj, rfl, HKj, HCj⟩ := hrel
       obtain ⟨st, hst⟩ : ∃ st, (l.take j).foldl stT (false, S) = st := ⟨_, rfl⟩
       rw [hst]
       have HST := Aside0.mk hst
       rw [hst] at HCj
       clear hst
       obtain ⟨b2, S2⟩ := st
       dsimp only
       by_cases hjl : j < l.length
       ·obtain ⟨k2, rfl⟩ : ∃ k2, gk = k2 + 1 := ⟨gk - 1, by have := HKj.out; omega⟩
        have HK2 := Aside0.mk (show k2 = l.length - (j + 1) by have := HKj.out; omega)
        obtain ⟨ad2, ea2, y0, y1, y2, y3, y4⟩ := at_T44 (Kd.C_below HC1.out HCj.out.below) (j : Int) (Int.natCast_nonneg _) (by omega)
        subst ea2
        rw [Int.toNat_natCast] at y0 y1 y2 y3 y4
        obtain ⟨x, hx⟩ : ∃ x, rd_T44 l (j : Int) = x := ⟨_, rfl⟩
        rw [hx] at y0 y1 y2 y3 y4
        have hstep : (l.take (j + 1)).foldl stT (false, S) = stT (b2, S2) x := by
         rw [List.take_add_one, List.foldl_append, HST.out, List.getElem?_eq_getElem hjl, Option.toList_some, ← hx, rd44_getElem l j hjl]
         rfl
        have HSTEP := Aside0.mk hstep
        have hal := below_alloc (Below.refl wr.heap.size wr) (.cells #[.int .i64 x.f0, .int .i64 x.f1, .int .i64 x.f2, .string x.f3, .string x.f4] 44)
        have HAL := Aside0.mk hal
        have HBX := Aside0.mk (World.alloc_heap_new wr (.cells #[.int .i64 x.f0, .int .i64 x.f1, .int .i64 x.f2, .string x.f3, .string x.f4] 44))
        have HCA := Aside0.mk (HCj.out.next hal)
        have hwj := wrap_up j l.length hjl HC1.out.2.1
        clear hx hstep hal
        cases b2
        ·cases hf : fileR x
         ·go_wp2_with (go_at_call 63; refine (manifest_fileRight.calls x.f0 x.f1 x.f2 x.f3 x.f4 (fileR x) _ (fileR_val x)).mono ?_; rintro e w3 ⟨rfl, hb⟩; rw [hf]; have HC3 := Aside0.mk (HCA.out.next hb); have hbx := (hb.block wr.heap.size (by simp)).trans HBX.out; have q0 := (blk_cell1 hbx 0 rfl).1; obtain ⟨W', hup, hS', hg⟩ := HC3.out.set.update x.f0; have HS' := Aside0.mk hS'; have HG' := Aside0.mk hg; clear hS' hg hb hbx)
          go_roundg k2
          case measure => omega
          case rel => exact ⟨j + 1, by first | rfl | (congr 1; omega) | (simp [hwj]; done), by omega, by rw [HSTEP.out]; simp [stT, hf], HK2, ⟨by rw [HSTEP.out]; exact HC3.out.store HS'.out HG'.out⟩⟩
         ·by_cases hm : x.f0 ∈ S2
          ·go_wp2_with (go_at_call 63; refine (manifest_fileRight.calls x.f0 x.f1 x.f2 x.f3 x.f4 (fileR x) _ (fileR_val x)).mono ?_; rintro e w3 ⟨rfl, hb⟩; rw [hf]; have HC3 := Aside0.mk (HCA.out.next hb); have hbx := (hb.block wr.heap.size (by simp)).trans HBX.out; have q0 := (blk_cell1 hbx 0 rfl).1; obtain ⟨W', hup, hS', hg⟩ := HC3.out.set.update x.f0; have HS' := Aside0.mk hS'; have HG' := Aside0.mk hg; clear hS' hg hb hbx; have hlk := HC3.out.set.lookup x.f0; rw [decide_eq_true hm] at hlk; have n2 := below_keep HC3.out.below (blk_cell1 (World.alloc_heap_new w (.cells #[.slice (some ad) ls.length c0, .int .i64 0, .int .i64 2147483648, .int .u64 0] 74)) 2 rfl).1)
           go_roundg k2
           case measure => omega
           case rel => exact ⟨j + 1, by first | rfl | (congr 1; omega) | (simp [hwj]; done), by omega, by rw [HSTEP.out]; simp [stT, hf, hm], HK2, ⟨by rw [HSTEP.out]; exact HC3.out.store HS'.out HG'.out⟩⟩
          ·go_wp2_with (go_at_call 63; refine (manifest_fileRight.calls x.f0 x.f1 x.f2 x.f3 x.f4 (fileR x) _ (fileR_val x)).mono ?_; rintro e w3 ⟨rfl, hb⟩; rw [hf]; have HC3 := Aside0.mk (HCA.out.next hb); have hbx := (hb.block wr.heap.size (by simp)).trans HBX.out; have q0 := (blk_cell1 hbx 0 rfl).1; obtain ⟨W', hup, hS', hg⟩ := HC3.out.set.update x.f0; have HS' := Aside0.mk hS'; have HG' := Aside0.mk hg; clear hS' hg hb hbx; have hlk := HC3.out.set.lookup x.f0; rw [decide_eq_false hm] at hlk; have n2 := below_keep HC3.out.below (blk_cell1 (World.alloc_heap_new w (.cells #[.slice (some ad) ls.length c0, .int .i64 0, .int .i64 2147483648, .int .u64 0] 74)) 2 rfl).1)
           go_roundg k2
           case measure => omega
           case rel => exact ⟨j + 1, by first | rfl | (congr 1; omega) | (simp [hwj]; done), by omega, by rw [HSTEP.out]; simp [stT, hf, hm], HK2, ⟨by rw [HSTEP.out]; exact HC3.out.store HS'.out HG'.out⟩⟩
        ·obtain ⟨W', hup, hS', hg⟩ := HCA.out.set.update x.f0
         have HS' := Aside0.mk hS'
         have HG' := Aside0.mk hg
         clear hS' hg
         go_wp2
         go_roundg k2
         case measure => omega
         case rel => exact ⟨j + 1, by first | rfl | (congr 1; omega) | (simp [hwj]; done), by omega, by rw [HSTEP.out]; rfl, HK2, ⟨by rw [HSTEP.out]; exact HCA.out.store HS'.out HG'.out⟩⟩
       ·obtain rfl : j = l.length := by omega
        have hfin : stTo ls (i + 1) = (b2, S2) := by
         rw [HLS.out]
         unfold stL
         rw [HB.out, HS.out]
         have h := HST.out
         rw [List.take_length] at h
         exact (by rw [ho]; simpa using h)
        have HFIN := Aside0.mk hfin
        clear hfin
        go_wp2
        go_roundg k1
        case measure => omega
        case rel => exact ⟨i + 1, by first | rfl | (congr 1; omega) | (simp [hwi]; done), by omega, by rw [HFIN.out], HK1, ⟨by rw [HFIN.out]; exact HCj.out⟩⟩
    ·have HCI := HC
     go_wp2
     clear x0
     go_loopg [5, 81] l.length (fun kq v5 v81 w' => ∃ (j : Nat), v81 = .int .i64 j ∧ j ≤ l.length ∧ v5 = .bool ((l.take j).foldl stT (true, S)).1 ∧ Aside0 (kq = l.length - j) ∧ Aside0 (ChkAt (w.alloc (.cells #[.slice (some ad) ls.length c0, .int .i64 0, .int .i64 2147483648, .int .u64 0] 74)) (w.heap.size + 1) ((l.take j).foldl stT (true, S)).2 w'))
     case atStart => exact ⟨0, rfl, Nat.zero_le _, rfl, ⟨rfl⟩, HCI⟩
     case round =>
      obtain ⟨j, rfl, hj, rfl, HKj, HCj⟩ := hrel
      obtain ⟨st, hst⟩ : ∃ st, (l.take j).foldl stT (true, S) = st := ⟨_, rfl⟩
      rw [hst]
      have HST := Aside0.mk hst
      rw [hst] at HCj
      clear hst
      obtain ⟨b2, S2⟩ := st
      dsimp only
      by_cases hjl : j < l.length
      ·obtain ⟨k2, rfl⟩ : ∃ k2, gk = k2 + 1 := ⟨gk - 1, by have := HKj.out; omega⟩
       have HK2 := Aside0.mk (show k2 = l.length - (j + 1) by have := HKj.out; omega)
       obtain ⟨ad2, ea2, y0, y1, y2, y3, y4⟩ := at_T44 (Kd.C_below HC1.out HCj.out.below) (j : Int) (Int.natCast_nonneg _) (by omega)
       subst ea2
       rw [Int.toNat_natCast] at y0 y1 y2 y3 y4
       obtain ⟨x, hx⟩ : ∃ x, rd_T44 l (j : Int) = x := ⟨_, rfl⟩
       rw [hx] at y0 y1 y2 y3 y4
       have hstep : (l.take (j + 1)).foldl stT (true, S) = stT (b2, S2) x := by
        rw [List.take_add_one, List.foldl_append, HST.out, List.getElem?_eq_getElem hjl, Option.toList_some, ← hx, rd44_getElem l j hjl]
        rfl
       have HSTEP := Aside0.mk hstep
       have hal := below_alloc (Below.refl wr.heap.size wr) (.cells #[.int .i64 x.f0, .int .i64 x.f1, .int .i64 x.f2, .string x.f3, .string x.f4] 44)
       have HAL := Aside0.mk hal
       have HBX := Aside0.mk (World.alloc_heap_new wr (.cells #[.int .i64 x.f0, .int .i64 x.f1, .int .i64 x.f2, .string x.f3, .string x.f4] 44))
       have HCA := Aside0.mk (HCj.out.next hal)
       have hwj := wrap_up j l.length hjl HC1.out.2.1
       clear hx hstep hal
       cases b2
       ·cases hf : fileR x
        ·go_wp2_with (go_at_call 63; refine (manifest_fileRight.calls x.f0 x.f1 x.f2 x.f3 x.f4 (fileR x) _ (fileR_val x)).mono ?_; rintro e w3 ⟨rfl, hb⟩; rw [hf]; have HC3 := Aside0.mk (HCA.out.next hb); have hbx := (hb.block wr.heap.size (by simp)).trans HBX.out; have q0 := (blk_cell1 hbx 0 rfl).1; obtain ⟨W', hup, hS', hg⟩ := HC3.out.set.update x.f0; have HS' := Aside0.mk hS'; have HG' := Aside0.mk hg; clear hS' hg hb hbx)
         go_roundg k2
         case measure => omega
         case rel => exact ⟨j + 1, by first | rfl | (congr 1; omega) | (simp [hwj]; done), by omega, by rw [HSTEP.out]; simp [stT, hf], HK2, ⟨by rw [HSTEP.out]; exact HC3.out.store HS'.out HG'.out⟩⟩
        ·by_cases hm : x.f0 ∈ S2
         ·go_wp2_with (go_at_call 63; refine (manifest_fileRight.calls x.f0 x.f1 x.f2 x.f3 x.f4 (fileR x) _ (fileR_val x)).mono ?_; rintro e w3 ⟨rfl, hb⟩; rw [hf]; have HC3 := Aside0.mk (HCA.out.next hb); have hbx := (hb.block wr.heap.size (by simp)).trans HBX.out; have q0 := (blk_cell1 hbx 0 rfl).1; obtain ⟨W', hup, hS', hg⟩ := HC3.out.set.update x.f0; have HS' := Aside0.mk hS'; have HG' := Aside0.mk hg; clear hS' hg hb hbx; have hlk := HC3.out.set.lookup x.f0; rw [decide_eq_true hm] at hlk; have n2 := below_keep HC3.out.below (blk_cell1 (World.alloc_heap_new w (.cells #[.slice (some ad) ls.length c0, .int .i64 0, .int .i64 2147483648, .int .u64 0] 74)) 2 rfl).1)
          go_roundg k2
          case measure => omega
          case rel => exact ⟨j + 1, by first | rfl | (congr 1; omega) | (simp [hwj]; done), by omega, by rw [HSTEP.out]; simp [stT, hf, hm], HK2, ⟨by rw [HSTEP.out]; exact HC3.out.store HS'.out HG'.out⟩⟩
         ·go_wp2_with (go_at_call 63; refine (manifest_fileRight.calls x.f0 x.f1 x.f2 x.f3 x.f4 (fileR x) _ (fileR_val x)).mono ?_; rintro e w3 ⟨rfl, hb⟩; rw [hf]; have HC3 := Aside0.mk (HCA.out.next hb); have hbx := (hb.block wr.heap.size (by simp)).trans HBX.out; have q0 := (blk_cell1 hbx 0 rfl).1; obtain ⟨W', hup, hS', hg⟩ := HC3.out.set.update x.f0; have HS' := Aside0.mk hS'; have HG' := Aside0.mk hg; clear hS' hg hb hbx; have hlk := HC3.out.set.lookup x.f0; rw [decide_eq_false hm] at hlk; have n2 := below_keep HC3.out.below (blk_cell1 (World.alloc_heap_new w (.cells #[.slice (some ad) ls.length c0, .int .i64 0, .int .i64 2147483648, .int .u64 0] 74)) 2 rfl).1)
          go_roundg k2
          case measure => omega
          case rel => exact ⟨j + 1, by first | rfl | (congr 1; omega) | (simp [hwj]; done), by omega, by rw [HSTEP.out]; simp [stT, hf, hm], HK2, ⟨by rw [HSTEP.out]; exact HC3.out.store HS'.out HG'.out⟩⟩
       ·obtain ⟨W', hup, hS', hg⟩ := HCA.out.set.update x.f0
        have HS' := Aside0.mk hS'
        have HG' := Aside0.mk hg
        clear hS' hg
        go_wp2
        go_roundg k2
        case measure => omega
        case rel => exact ⟨j + 1, by first | rfl | (congr 1; omega) | (simp [hwj]; done), by omega, by rw [HSTEP.out]; rfl, HK2, ⟨by rw [HSTEP.out]; exact HCA.out.store HS'.out HG'.out⟩⟩
      ·obtain rfl : j = l.length := by omega
       have hfin : stTo ls (i + 1) = (b2, S2) := by
        rw [HLS.out]
        unfold stL
        rw [HB.out, HS.out]
        have h := HST.out
        rw [List.take_length] at h
        exact (by simpa using h)
       have HFIN := Aside0.mk hfin
       clear hfin
       go_wp2
       go_roundg k1
       case measure => omega
       case rel => exact ⟨i + 1, by first | rfl | (congr 1; omega) | (simp [hwi]; done), by omega, by rw [HFIN.out], HK1, ⟨by rw [HFIN.out]; exact HCj.out⟩⟩
   ·obtain rfl : i = ls.length := by omega
    obtain ⟨bf, hbf⟩ : ∃ bf, (stTo ls ls.length).1 = bf := ⟨_, rfl⟩
    rw [hbf]
    have HBF := Aside0.mk hbf
    have HBE := Aside0.mk (HBW.out.trans (HC.out.below.mono HBW.out.size))
    clear hbf
    cases bf
    ·have hln := fun ty => HC.out.set.len ty
     by_cases hgt : 1024 < (stTo ls ls.length).2.length
     ·have hg1 : decide ((1024 : Int) < ((stTo ls ls.length).2.length : Int)) = true := decide_eq_true (by omega)
      have hg2 : decide (1024 < (stTo ls ls.length).2.length) = true := decide_eq_true hgt
      have HF := Aside0.mk (show checkF ls = 110 by unfold checkF; rw [HBF.out, hg2]; rfl)
      go_wp2
      go_ret
      exact ⟨by rw [HF.out]; rfl, HBE.out⟩
     ·have hg1 : decide ((1024 : Int) < ((stTo ls ls.length).2.length : Int)) = false := decide_eq_false (by omega)
      have hg2 : decide (1024 < (stTo ls ls.length).2.length) = false := decide_eq_false hgt
      have HF := Aside0.mk (show checkF ls = 0 by unfold checkF; rw [HBF.out, hg2]; rfl)
      go_wp2
      go_ret
      exact ⟨by rw [HF.out]; rfl, HBE.out⟩
    ·have HF := Aside0.mk (show checkF ls = 110 by unfold checkF; rw [HBF.out]; rfl)
     go_wp2
     go_ret
     exact ⟨by rw [HF.out]; rfl, HBE.out⟩
 ·have d1 : decide ((7 : Int) < (ls.length : Int)) = false := decide_eq_false (by omega)
  have d1n : decide (7 < ls.length) = false := decide_eq_false (by omega)
  have d2 : decide ((0 : Int) < (ls.length : Int)) = true := decide_eq_true (by omega)
  have d2n : decide (0 < ls.length) = true := decide_eq_true (by omega)
  obtain ⟨ad0, A9, c9, ea9, x9, hl9, hC9⟩ := at_L3 HR.out ((ls.length - 1 : Nat) : Int) (Int.natCast_nonneg _) (by omega)
  subst ea9
  rw [Int.toNat_natCast] at x9
  have ew : IntKind.i64.wrap ((ls.length : Int) - 1) = ((ls.length - 1 : Nat) : Int) := by rw [i64_w]; exact wrap_dn ls.length (by omega) HR.out.2.1
  have ew2 : wrap64 ((ls.length : Int) - 1) = ((ls.length - 1 : Nat) : Int) := wrap_dn ls.length (by omega) HR.out.2.1
  obtain ⟨l9, hl9e⟩ : ∃ l9, rd_L3 ls ((ls.length - 1 : Nat) : Int) = l9 := ⟨_, rfl⟩
  rw [hl9e] at x9 hl
  have hz9 : ((l9.length : Int) == 0) = true := by rw [hl]; rfl
  have HW := Aside0.mk hw
  clear hw hl9 hC9 hl9e hl
  go_enter Try.func48, Try.ntmps48
  go_wp2
  go_loopg [5, 67] ls.length (fun kq v5 v67 w' => ∃ (i : Nat), v67 = .int .i64 i ∧ i ≤ ls.length ∧ v5 = .bool (stTo ls i).1 ∧ Aside0 (kq = ls.length - i) ∧ Aside0 (ChkAt (w.alloc (.cells #[.slice (some ad0) ls.length c0, .int .i64 0, .int .i64 2147483648, .int .u64 0] 74)) (w.heap.size + 1) (stTo ls i).2 w'))
  case atStart => exact ⟨0, rfl, Nat.zero_le _, by rw [show (stTo ls 0).1 = _ from HW.out], ⟨rfl⟩, ⟨chk_start _⟩⟩
  case round =>
   obtain ⟨i, rfl, hi, rfl, HK, HC⟩ := hrel
   by_cases hlt : i < ls.length
   ·obtain ⟨k1, rfl⟩ : ∃ k1, gk = k1 + 1 := ⟨gk - 1, by have := HK.out; omega⟩
    have HK1 := Aside0.mk (show k1 = ls.length - (i + 1) by have := HK.out; omega)
    obtain ⟨ad, A1, c1, ea, x0, hl1, hC1⟩ := at_L3 HR.out (i : Int) (Int.natCast_nonneg _) (by omega)
    have ea' := (Option.some.inj ea).symm
    subst ea'
    rw [Int.toNat_natCast] at x0
    have x0 := below_keep HC.out.below x0
    obtain ⟨l, hl⟩ : ∃ l, rd_L3 ls (i : Int) = l := ⟨_, rfl⟩
    rw [hl] at x0 hl1 hC1
    have HLS := Aside0.mk (show stTo ls (i + 1) = stL (stTo ls i) i l by rw [← hl]; simp [stTo, rd_L3])
    have HL1 := Aside0.mk hl1
    have HC1 := Aside0.mk hC1
    obtain ⟨b, hb⟩ : ∃ b, (stTo ls i).1 = b := ⟨_, rfl⟩
    obtain ⟨S, hS⟩ : ∃ S, (stTo ls i).2 = S := ⟨_, rfl⟩
    rw [hb]
    have HB := Aside0.mk hb
    have HS := Aside0.mk hS
    rw [hS] at HC
    obtain ⟨K, hK⟩ := ord_ev i l hC1.2.1
    have HO := Aside0.mk (hK K (Nat.le_refl _))
    have hwi := wrap_up i ls.length hlt HR.out.2.1
    clear hl hl1 hC1 hb hS hK
    cases b
    ·cases ho : ordF i l
     ·go_wp2_with (go_at_call 62; refine (manifest_ordered.calls K (i : Int) A1 c1 l (ordF i l) _ (Kd.C_below HC1.out HC.out.below) HL1.out HO.out).mono ?_; rintro e w5 ⟨rfl, hd⟩; rw [ho]; have HCI := Aside0.mk (HC.out.next hd.below); clear hd x0)
      go_loopg [5, 81] l.length (fun kq v5 v81 w' => ∃ (j : Nat), v81 = .int .i64 j ∧ j ≤ l.length ∧ v5 = .bool ((l.take j).foldl stT (true, S)).1 ∧ Aside0 (kq = l.length - j) ∧ Aside0 (ChkAt (w.alloc (.cells #[.slice (some ad) ls.length c0, .int .i64 0, .int .i64 2147483648, .int .u64 0] 74)) (w.heap.size + 1) ((l.take j).foldl stT (true, S)).2 w'))
      case atStart => exact ⟨0, rfl, Nat.zero_le _, rfl, ⟨rfl⟩, HCI⟩
      case round =>
       obtain ⟨j, rfl, hj, rfl, HKj, HCj⟩ := hrel
       obtain ⟨st, hst⟩ : ∃ st, (l.take j).foldl stT (true, S) = st := ⟨_, rfl⟩
       rw [hst]
       have HST := Aside0.mk hst
       rw [hst] at HCj
       clear hst
       obtain ⟨b2, S2⟩ := st
       dsimp only
       by_cases hjl : j < l.length
       ·obtain ⟨k2, rfl⟩ : ∃ k2, gk = k2 + 1 := ⟨gk - 1, by have := HKj.out; omega⟩
        have HK2 := Aside0.mk (show k2 = l.length - (j + 1) by have := HKj.out; omega)
        obtain ⟨ad2, ea2, y0, y1, y2, y3, y4⟩ := at_T44 (Kd.C_below HC1.out HCj.out.below) (j : Int) (Int.natCast_nonneg _) (by omega)
        subst ea2
        rw [Int.toNat_natCast] at y0 y1 y2 y3 y4
        obtain ⟨x, hx⟩ : ∃ x, rd_T44 l (j : Int) = x := ⟨_, rfl⟩
        rw [hx] at y0 y1 y2 y3 y4
        have hstep : (l.take (j + 1)).foldl stT (true, S) = stT (b2, S2) x := by
         rw [List.take_add_one, List.foldl_append, HST.out, List.getElem?_eq_getElem hjl, Option.toList_some, ← hx, rd44_getElem l j hjl]
         rfl
        have HSTEP := Aside0.mk hstep
        have hal := below_alloc (Below.refl wr.heap.size wr) (.cells #[.int .i64 x.f0, .int .i64 x.f1, .int .i64 x.f2, .string x.f3, .string x.f4] 44)
        have HAL := Aside0.mk hal
        have HBX := Aside0.mk (World.alloc_heap_new wr (.cells #[.int .i64 x.f0, .int .i64 x.f1, .int .i64 x.f2, .string x.f3, .string x.f4] 44))
        have HCA := Aside0.mk (HCj.out.next hal)
        have hwj := wrap_up j l.length hjl HC1.out.2.1
        clear hx hstep hal
        cases b2
        ·cases hf : fileR x
         ·go_wp2_with (go_at_call 63; refine (manifest_fileRight.calls x.f0 x.f1 x.f2 x.f3 x.f4 (fileR x) _ (fileR_val x)).mono ?_; rintro e w3 ⟨rfl, hb⟩; rw [hf]; have HC3 := Aside0.mk (HCA.out.next hb); have hbx := (hb.block wr.heap.size (by simp)).trans HBX.out; have q0 := (blk_cell1 hbx 0 rfl).1; obtain ⟨W', hup, hS', hg⟩ := HC3.out.set.update x.f0; have HS' := Aside0.mk hS'; have HG' := Aside0.mk hg; clear hS' hg hb hbx)
          go_roundg k2
          case measure => omega
          case rel => exact ⟨j + 1, by first | rfl | (congr 1; omega) | (simp [hwj]; done), by omega, by rw [HSTEP.out]; simp [stT, hf], HK2, ⟨by rw [HSTEP.out]; exact HC3.out.store HS'.out HG'.out⟩⟩
         ·by_cases hm : x.f0 ∈ S2
          ·go_wp2_with (go_at_call 63; refine (manifest_fileRight.calls x.f0 x.f1 x.f2 x.f3 x.f4 (fileR x) _ (fileR_val x)).mono ?_; rintro e w3 ⟨rfl, hb⟩; rw [hf]; have HC3 := Aside0.mk (HCA.out.next hb); have hbx := (hb.block wr.heap.size (by simp)).trans HBX.out; have q0 := (blk_cell1 hbx 0 rfl).1; obtain ⟨W', hup, hS', hg⟩ := HC3.out.set.update x.f0; have HS' := Aside0.mk hS'; have HG' := Aside0.mk hg; clear hS' hg hb hbx; have hlk := HC3.out.set.lookup x.f0; rw [decide_eq_true hm] at hlk; have n2 := below_keep HC3.out.below (blk_cell1 (World.alloc_heap_new w (.cells #[.slice (some ad) ls.length c0, .int .i64 0, .int .i64 2147483648, .int .u64 0] 74)) 2 rfl).1)
           go_roundg k2
           case measure => omega
           case rel => exact ⟨j + 1, by first | rfl | (congr 1; omega) | (simp [hwj]; done), by omega, by rw [HSTEP.out]; simp [stT, hf, hm], HK2, ⟨by rw [HSTEP.out]; exact HC3.out.store HS'.out HG'.out⟩⟩
          ·go_wp2_with (go_at_call 63; refine (manifest_fileRight.calls x.f0 x.f1 x.f2 x.f3 x.f4 (fileR x) _ (fileR_val x)).mono ?_; rintro e w3 ⟨rfl, hb⟩; rw [hf]; have HC3 := Aside0.mk (HCA.out.next hb); have hbx := (hb.block wr.heap.size (by simp)).trans HBX.out; have q0 := (blk_cell1 hbx 0 rfl).1; obtain ⟨W', hup, hS', hg⟩ := HC3.out.set.update x.f0; have HS' := Aside0.mk hS'; have HG' := Aside0.mk hg; clear hS' hg hb hbx; have hlk := HC3.out.set.lookup x.f0; rw [decide_eq_false hm] at hlk; have n2 := below_keep HC3.out.below (blk_cell1 (World.alloc_heap_new w (.cells #[.slice (some ad) ls.length c0, .int .i64 0, .int .i64 2147483648, .int .u64 0] 74)) 2 rfl).1)
           go_roundg k2
           case measure => omega
           case rel => exact ⟨j + 1, by first | rfl | (congr 1; omega) | (simp [hwj]; done), by omega, by rw [HSTEP.out]; simp [stT, hf, hm], HK2, ⟨by rw [HSTEP.out]; exact HC3.out.store HS'.out HG'.out⟩⟩
        ·obtain ⟨W', hup, hS', hg⟩ := HCA.out.set.update x.f0
         have HS' := Aside0.mk hS'
         have HG' := Aside0.mk hg
         clear hS' hg
         go_wp2
         go_roundg k2
         case measure => omega
         case rel => exact ⟨j + 1, by first | rfl | (congr 1; omega) | (simp [hwj]; done), by omega, by rw [HSTEP.out]; rfl, HK2, ⟨by rw [HSTEP.out]; exact HCA.out.store HS'.out HG'.out⟩⟩
       ·obtain rfl : j = l.length := by omega
        have hfin : stTo ls (i + 1) = (b2, S2) := by
         rw [HLS.out]
         unfold stL
         rw [HB.out, HS.out]
         have h := HST.out
         rw [List.take_length] at h
         exact (by rw [ho]; simpa using h)
        have HFIN := Aside0.mk hfin
        clear hfin
        go_wp2
        go_roundg k1
        case measure => omega
        case rel => exact ⟨i + 1, by first | rfl | (congr 1; omega) | (simp [hwi]; done), by omega, by rw [HFIN.out], HK1, ⟨by rw [HFIN.out]; exact HCj.out⟩⟩
     ·go_wp2_with (go_at_call 62; refine (manifest_ordered.calls K (i : Int) A1 c1 l (ordF i l) _ (Kd.C_below HC1.out HC.out.below) HL1.out HO.out).mono ?_; rintro e w5 ⟨rfl, hd⟩; rw [ho]; have HCI := Aside0.mk (HC.out.next hd.below); clear hd x0)
      go_loopg [5, 81] l.length (fun kq v5 v81 w' => ∃ (j : Nat), v81 = .int .i64 j ∧ j ≤ l.length ∧ v5 = .bool ((l.take j).foldl stT (false, S)).1 ∧ Aside0 (kq = l.length - j) ∧ Aside0 (ChkAt (w.alloc (.cells #[.slice (some ad) ls.length c0, .int .i64 0, .int .i64 2147483648, .int .u64 0] 74)) (w.heap.size + 1) ((l.take j).foldl stT (false, S)).2 w'))
      case atStart => exact ⟨0, rfl, Nat.zero_le _, rfl, ⟨rfl⟩, HCI⟩
      case round =>
       obtain ⟨j, rfl, hj, rfl, HKj, HCj⟩ := hrel
       obtain ⟨st, hst⟩ : ∃ st, (l.take j).foldl stT (false, S) = st := ⟨_, rfl⟩
       rw [hst]
       have HST := Aside0.mk hst
       rw [hst] at HCj
       clear hst
       obtain ⟨b2, S2⟩ := st
       dsimp only
       by_cases hjl : j < l.length
       ·obtain ⟨k2, rfl⟩ : ∃ k2, gk = k2 + 1 := ⟨gk - 1, by have := HKj.out; omega⟩
        have HK2 := Aside0.mk (show k2 = l.length - (j + 1) by have := HKj.out; omega)
        obtain ⟨ad2, ea2, y0, y1, y2, y3, y4⟩ := at_T44 (Kd.C_below HC1.out HCj.out.below) (j : Int) (Int.natCast_nonneg _) (by omega)
        subst ea2
        rw [Int.toNat_natCast] at y0 y1 y2 y3 y4
        obtain ⟨x, hx⟩ : ∃ x, rd_T44 l (j : Int) = x := ⟨_, rfl⟩
        rw [hx] at y0 y1 y2 y3 y4
        have hstep : (l.take (j + 1)).foldl stT (false, S) = stT (b2, S2) x := by
         rw [List.take_add_one, List.foldl_append, HST.out, List.getElem?_eq_getElem hjl, Option.toList_some, ← hx, rd44_getElem l j hjl]
         rfl
        have HSTEP := Aside0.mk hstep
        have hal := below_alloc (Below.refl wr.heap.size wr) (.cells #[.int .i64 x.f0, .int .i64 x.f1, .int .i64 x.f2, .string x.f3, .string x.f4] 44)
        have HAL := Aside0.mk hal
        have HBX := Aside0.mk (World.alloc_heap_new wr (.cells #[.int .i64 x.f0, .int .i64 x.f1, .int .i64 x.f2, .string x.f3, .string x.f4] 44))
        have HCA := Aside0.mk (HCj.out.next hal)
        have hwj := wrap_up j l.length hjl HC1.out.2.1
        clear hx hstep hal
        cases b2
        ·cases hf : fileR x
         ·go_wp2_with (go_at_call 63; refine (manifest_fileRight.calls x.f0 x.f1 x.f2 x.f3 x.f4 (fileR x) _ (fileR_val x)).mono ?_; rintro e w3 ⟨rfl, hb⟩; rw [hf]; have HC3 := Aside0.mk (HCA.out.next hb); have hbx := (hb.block wr.heap.size (by simp)).trans HBX.out; have q0 := (blk_cell1 hbx 0 rfl).1; obtain ⟨W', hup, hS', hg⟩ := HC3.out.set.update x.f0; have HS' := Aside0.mk hS'; have HG' := Aside0.mk hg; clear hS' hg hb hbx)
          go_roundg k2
          case measure => omega
          case rel => exact ⟨j + 1, by first | rfl | (congr 1; omega) | (simp [hwj]; done), by omega, by rw [HSTEP.out]; simp [stT, hf], HK2, ⟨by rw [HSTEP.out]; exact HC3.out.store HS'.out HG'.out⟩⟩
         ·by_cases hm : x.f0 ∈ S2
          ·go_wp2_with (go_at_call 63; refine (manifest_fileRight.calls x.f0 x.f1 x.f2 x.f3 x.f4 (fileR x) _ (fileR_val x)).mono ?_; rintro e w3 ⟨rfl, hb⟩; rw [hf]; have HC3 := Aside0.mk (HCA.out.next hb); have hbx := (hb.block wr.heap.size (by simp)).trans HBX.out; have q0 := (blk_cell1 hbx 0 rfl).1; obtain ⟨W', hup, hS', hg⟩ := HC3.out.set.update x.f0; have HS' := Aside0.mk hS'; have HG' := Aside0.mk hg; clear hS' hg hb hbx; have hlk := HC3.out.set.lookup x.f0; rw [decide_eq_true hm] at hlk; have n2 := below_keep HC3.out.below (blk_cell1 (World.alloc_heap_new w (.cells #[.slice (some ad) ls.length c0, .int .i64 0, .int .i64 2147483648, .int .u64 0] 74)) 2 rfl).1)
           go_roundg k2
           case measure => omega
           case rel => exact ⟨j + 1, by first | rfl | (congr 1; omega) | (simp [hwj]; done), by omega, by rw [HSTEP.out]; simp [stT, hf, hm], HK2, ⟨by rw [HSTEP.out]; exact HC3.out.store HS'.out HG'.out⟩⟩
          ·go_wp2_with (go_at_call 63; refine (manifest_fileRight.calls x.f0 x.f1 x.f2 x.f3 x.f4 (fileR x) _ (fileR_val x)).mono ?_; rintro e w3 ⟨rfl, hb⟩; rw [hf]; have HC3 := Aside0.mk (HCA.out.next hb); have hbx := (hb.block wr.heap.size (by simp)).trans HBX.out; have q0 := (blk_cell1 hbx 0 rfl).1; obtain ⟨W', hup, hS', hg⟩ := HC3.out.set.update x.f0; have HS' := Aside0.mk hS'; have HG' := Aside0.mk hg; clear hS' hg hb hbx; have hlk := HC3.out.set.lookup x.f0; rw [decide_eq_false hm] at hlk; have n2 := below_keep HC3.out.below (blk_cell1 (World.alloc_heap_new w (.cells #[.slice (some ad) ls.length c0, .int .i64 0, .int .i64 2147483648, .int .u64 0] 74)) 2 rfl).1)
           go_roundg k2
           case measure => omega
           case rel => exact ⟨j + 1, by first | rfl | (congr 1; omega) | (simp [hwj]; done), by omega, by rw [HSTEP.out]; simp [stT, hf, hm], HK2, ⟨by rw [HSTEP.out]; exact HC3.out.store HS'.out HG'.out⟩⟩
        ·obtain ⟨W', hup, hS', hg⟩ := HCA.out.set.update x.f0
         have HS' := Aside0.mk hS'
         have HG' := Aside0.mk hg
         clear hS' hg
         go_wp2
         go_roundg k2
         case measure => omega
         case rel => exact ⟨j + 1, by first | rfl | (congr 1; omega) | (simp [hwj]; done), by omega, by rw [HSTEP.out]; rfl, HK2, ⟨by rw [HSTEP.out]; exact HCA.out.store HS'.out HG'.out⟩⟩
       ·obtain rfl : j = l.length := by omega
        have hfin : stTo ls (i + 1) = (b2, S2) := by
         rw [HLS.out]
         unfold stL
         rw [HB.out, HS.out]
         have h := HST.out
         rw [List.take_length] at h
         exact (by rw [ho]; simpa using h)
        have HFIN := Aside0.mk hfin
        clear hfin
        go_wp2
        go_roundg k1
        case measure => omega
        case rel => exact ⟨i + 1, by first | rfl | (congr 1; omega) | (simp [hwi]; done), by omega, by rw [HFIN.out], HK1, ⟨by rw [HFIN.out]; exact HCj.out⟩⟩
    ·have HCI := HC
     go_wp2
     clear x0
     go_loopg [5, 81] l.length (fun kq v5 v81 w' => ∃ (j : Nat), v81 = .int .i64 j ∧ j ≤ l.length ∧ v5 = .bool ((l.take j).foldl stT (true, S)).1 ∧ Aside0 (kq = l.length - j) ∧ Aside0 (ChkAt (w.alloc (.cells #[.slice (some ad) ls.length c0, .int .i64 0, .int .i64 2147483648, .int .u64 0] 74)) (w.heap.size + 1) ((l.take j).foldl stT (true, S)).2 w'))
     case atStart => exact ⟨0, rfl, Nat.zero_le _, rfl, ⟨rfl⟩, HCI⟩
     case round =>
      obtain ⟨j, rfl, hj, rfl, HKj, HCj⟩ := hrel
      obtain ⟨st, hst⟩ : ∃ st, (l.take j).foldl stT (true, S) = st := ⟨_, rfl⟩
      rw [hst]
      have HST := Aside0.mk hst
      rw [hst] at HCj
      clear hst
      obtain ⟨b2, S2⟩ := st
      dsimp only
      by_cases hjl : j < l.length
      ·obtain ⟨k2, rfl⟩ : ∃ k2, gk = k2 + 1 := ⟨gk - 1, by have := HKj.out; omega⟩
       have HK2 := Aside0.mk (show k2 = l.length - (j + 1) by have := HKj.out; omega)
       obtain ⟨ad2, ea2, y0, y1, y2, y3, y4⟩ := at_T44 (Kd.C_below HC1.out HCj.out.below) (j : Int) (Int.natCast_nonneg _) (by omega)
       subst ea2
       rw [Int.toNat_natCast] at y0 y1 y2 y3 y4
       obtain ⟨x, hx⟩ : ∃ x, rd_T44 l (j : Int) = x := ⟨_, rfl⟩
       rw [hx] at y0 y1 y2 y3 y4
       have hstep : (l.take (j + 1)).foldl stT (true, S) = stT (b2, S2) x := by
        rw [List.take_add_one, List.foldl_append, HST.out, List.getElem?_eq_getElem hjl, Option.toList_some, ← hx, rd44_getElem l j hjl]
        rfl
       have HSTEP := Aside0.mk hstep
       have hal := below_alloc (Below.refl wr.heap.size wr) (.cells #[.int .i64 x.f0, .int .i64 x.f1, .int .i64 x.f2, .string x.f3, .string x.f4] 44)
       have HAL := Aside0.mk hal
       have HBX := Aside0.mk (World.alloc_heap_new wr (.cells #[.int .i64 x.f0, .int .i64 x.f1, .int .i64 x.f2, .string x.f3, .string x.f4] 44))
       have HCA := Aside0.mk (HCj.out.next hal)
       have hwj := wrap_up j l.length hjl HC1.out.2.1
       clear hx hstep hal
       cases b2
       ·cases hf : fileR x
        ·go_wp2_with (go_at_call 63; refine (manifest_fileRight.calls x.f0 x.f1 x.f2 x.f3 x.f4 (fileR x) _ (fileR_val x)).mono ?_; rintro e w3 ⟨rfl, hb⟩; rw [hf]; have HC3 := Aside0.mk (HCA.out.next hb); have hbx := (hb.block wr.heap.size (by simp)).trans HBX.out; have q0 := (blk_cell1 hbx 0 rfl).1; obtain ⟨W', hup, hS', hg⟩ := HC3.out.set.update x.f0; have HS' := Aside0.mk hS'; have HG' := Aside0.mk hg; clear hS' hg hb hbx)
         go_roundg k2
         case measure => omega
         case rel => exact ⟨j + 1, by first | rfl | (congr 1; omega) | (simp [hwj]; done), by omega, by rw [HSTEP.out]; simp [stT, hf], HK2, ⟨by rw [HSTEP.out]; exact HC3.out.store HS'.out HG'.out⟩⟩
        ·by_cases hm : x.f0 ∈ S2
         ·go_wp2_with (go_at_call 63; refine (manifest_fileRight.calls x.f0 x.f1 x.f2 x.f3 x.f4 (fileR x) _ (fileR_val x)).mono ?_; rintro e w3 ⟨rfl, hb⟩; rw [hf]; have HC3 := Aside0.mk (HCA.out.next hb); have hbx := (hb.block wr.heap.size (by simp)).trans HBX.out; have q0 := (blk_cell1 hbx 0 rfl).1; obtain ⟨W', hup, hS', hg⟩ := HC3.out.set.update x.f0; have HS' := Aside0.mk hS'; have HG' := Aside0.mk hg; clear hS' hg hb hbx; have hlk := HC3.out.set.lookup x.f0; rw [decide_eq_true hm] at hlk; have n2 := below_keep HC3.out.below (blk_cell1 (World.alloc_heap_new w (.cells #[.slice (some ad) ls.length c0, .int .i64 0, .int .i64 2147483648, .int .u64 0] 74)) 2 rfl).1)
          go_roundg k2
          case measure => omega
          case rel => exact ⟨j + 1, by first | rfl | (congr 1; omega) | (simp [hwj]; done), by omega, by rw [HSTEP.out]; simp [stT, hf, hm], HK2, ⟨by rw [HSTEP.out]; exact HC3.out.store HS'.out HG'.out⟩⟩
         ·go_wp2_with (go_at_call 63; refine (manifest_fileRight.calls x.f0 x.f1 x.f2 x.f3 x.f4 (fileR x) _ (fileR_val x)).mono ?_; rintro e w3 ⟨rfl, hb⟩; rw [hf]; have HC3 := Aside0.mk (HCA.out.next hb); have hbx := (hb.block wr.heap.size (by simp)).trans HBX.out; have q0 := (blk_cell1 hbx 0 rfl).1; obtain ⟨W', hup, hS', hg⟩ := HC3.out.set.update x.f0; have HS' := Aside0.mk hS'; have HG' := Aside0.mk hg; clear hS' hg hb hbx; have hlk := HC3.out.set.lookup x.f0; rw [decide_eq_false hm] at hlk; have n2 := below_keep HC3.out.below (blk_cell1 (World.alloc_heap_new w (.cells #[.slice (some ad) ls.length c0, .int .i64 0, .int .i64 2147483648, .int .u64 0] 74)) 2 rfl).1)
          go_roundg k2
          case measure => omega
          case rel => exact ⟨j + 1, by first | rfl | (congr 1; omega) | (simp [hwj]; done), by omega, by rw [HSTEP.out]; simp [stT, hf, hm], HK2, ⟨by rw [HSTEP.out]; exact HC3.out.store HS'.out HG'.out⟩⟩
       ·obtain ⟨W', hup, hS', hg⟩ := HCA.out.set.update x.f0
        have HS' := Aside0.mk hS'
        have HG' := Aside0.mk hg
        clear hS' hg
        go_wp2
        go_roundg k2
        case measure => omega
        case rel => exact ⟨j + 1, by first | rfl | (congr 1; omega) | (simp [hwj]; done), by omega, by rw [HSTEP.out]; rfl, HK2, ⟨by rw [HSTEP.out]; exact HCA.out.store HS'.out HG'.out⟩⟩
      ·obtain rfl : j = l.length := by omega
       have hfin : stTo ls (i + 1) = (b2, S2) := by
        rw [HLS.out]
        unfold stL
        rw [HB.out, HS.out]
        have h := HST.out
        rw [List.take_length] at h
        exact (by simpa using h)
       have HFIN := Aside0.mk hfin
       clear hfin
       go_wp2
       go_roundg k1
       case measure => omega
       case rel => exact ⟨i + 1, by first | rfl | (congr 1; omega) | (simp [hwi]; done), by omega, by rw [HFIN.out], HK1, ⟨by rw [HFIN.out]; exact HCj.out⟩⟩
   ·obtain rfl : i = ls.length := by omega
    obtain ⟨bf, hbf⟩ : ∃ bf, (stTo ls ls.length).1 = bf := ⟨_, rfl⟩
    rw [hbf]
    have HBF := Aside0.mk hbf
    have HBE := Aside0.mk (HBW.out.trans (HC.out.below.mono HBW.out.size))
    clear hbf
    cases bf
    ·have hln := fun ty => HC.out.set.len ty
     by_cases hgt : 1024 < (stTo ls ls.length).2.length
     ·have hg1 : decide ((1024 : Int) < ((stTo ls ls.length).2.length : Int)) = true := decide_eq_true (by omega)
      have hg2 : decide (1024 < (stTo ls ls.length).2.length) = true := decide_eq_true hgt
      have HF := Aside0.mk (show checkF ls = 110 by unfold checkF; rw [HBF.out, hg2]; rfl)
      go_wp2
      go_ret
      exact ⟨by rw [HF.out]; rfl, HBE.out⟩
     ·have hg1 : decide ((1024 : Int) < ((stTo ls ls.length).2.length : Int)) = false := decide_eq_false (by omega)
      have hg2 : decide (1024 < (stTo ls ls.length).2.length) = false := decide_eq_false hgt
      have HF := Aside0.mk (show checkF ls = 0 by unfold checkF; rw [HBF.out, hg2]; rfl)
      go_wp2
      go_ret
      exact ⟨by rw [HF.out]; rfl, HBE.out⟩
    ·have HF := Aside0.mk (show checkF ls = 110 by unfold checkF; rw [HBF.out]; rfl)
     go_wp2
     go_ret
     exact ⟨by rw [HF.out]; rfl, HBE.out⟩
 ·have d1 : decide ((7 : Int) < (ls.length : Int)) = false := decide_eq_false (by omega)
  have d1n : decide (7 < ls.length) = false := decide_eq_false (by omega)
  have d2 : decide ((0 : Int) < (ls.length : Int)) = true := decide_eq_true (by omega)
  have d2n : decide (0 < ls.length) = true := decide_eq_true (by omega)
  obtain ⟨ad0, A9, c9, ea9, x9, hl9, hC9⟩ := at_L3 HR.out ((ls.length - 1 : Nat) : Int) (Int.natCast_nonneg _) (by omega)
  subst ea9
  rw [Int.toNat_natCast] at x9
  have ew : IntKind.i64.wrap ((ls.length : Int) - 1) = ((ls.length - 1 : Nat) : Int) := by rw [i64_w]; exact wrap_dn ls.length (by omega) HR.out.2.1
  have ew2 : wrap64 ((ls.length : Int) - 1) = ((ls.length - 1 : Nat) : Int) := wrap_dn ls.length (by omega) HR.out.2.1
  obtain ⟨l9, hl9e⟩ : ∃ l9, rd_L3 ls ((ls.length - 1 : Nat) : Int) = l9 := ⟨_, rfl⟩
  rw [hl9e] at x9 hl
  have hz9 : ((l9.length : Int) == 0) = false := beq_eq_false_iff_ne.mpr (by omega)
  have HW := Aside0.mk hw
  clear hw hl9 hC9 hl9e hl
  go_enter Try.func48, Try.ntmps48
  go_wp2
  go_loopg [5, 67] ls.length (fun kq v5 v67 w' => ∃ (i : Nat), v67 = .int .i64 i ∧ i ≤ ls.length ∧ v5 = .bool (stTo ls i).1 ∧ Aside0 (kq = ls.length - i) ∧ Aside0 (ChkAt (w.alloc (.cells #[.slice (some ad0) ls.length c0, .int .i64 0, .int .i64 2147483648, .int .u64 0] 74)) (w.heap.size + 1) (stTo ls i).2 w'))
  case atStart => exact ⟨0, rfl, Nat.zero_le _, by rw [show (stTo ls 0).1 = _ from HW.out], ⟨rfl⟩, ⟨chk_start _⟩⟩
  case round =>
   obtain ⟨i, rfl, hi, rfl, HK, HC⟩ := hrel
   by_cases hlt : i < ls.length
   ·obtain ⟨k1, rfl⟩ : ∃ k1, gk = k1 + 1 := ⟨gk - 1, by have := HK.out; omega⟩
    have HK1 := Aside0.mk (show k1 = ls.length - (i + 1) by have := HK.out; omega)
    obtain ⟨ad, A1, c1, ea, x0, hl1, hC1⟩ := at_L3 HR.out (i : Int) (Int.natCast_nonneg _) (by omega)
    have ea' := (Option.some.inj ea).symm
    subst ea'
    rw [Int.toNat_natCast] at x0
    have x0 := below_keep HC.out.below x0
    obtain ⟨l, hl⟩ : ∃ l, rd_L3 ls (i : Int) = l := ⟨_, rfl⟩
    rw [hl] at x0 hl1 hC1
    have HLS := Aside0.mk (show stTo ls (i + 1) = stL (stTo ls i) i l by rw [← hl]; simp [stTo, rd_L3])
    have HL1 := Aside0.mk hl1
    have HC1 := Aside0.mk hC1
    obtain ⟨b, hb⟩ : ∃ b, (stTo ls i).1 = b := ⟨_, rfl⟩
    obtain ⟨S, hS⟩ : ∃ S, (stTo ls i).2 = S := ⟨_, rfl⟩
    rw [hb]
    have HB := Aside0.mk hb
    have HS := Aside0.mk hS
    rw [hS] at HC
    obtain ⟨K, hK⟩ := ord_ev i l hC1.2.1
    have HO := Aside0.mk (hK K (Nat.le_refl _))
    have hwi := wrap_up i ls.length hlt HR.out.2.1
    clear hl hl1 hC1 hb hS hK
    cases b
    ·cases ho : ordF i l
     ·go_wp2_with (go_at_call 62; refine (manifest_ordered.calls K (i : Int) A1 c1 l (ordF i l) _ (Kd.C_below HC1.out HC.out.below) HL1.out HO.out).mono ?_; rintro e w5 ⟨rfl, hd⟩; rw [ho]; have HCI := Aside0.mk (HC.out.next hd.below); clear hd x0)
      go_loopg [5, 81] l.length (fun kq v5 v81 w' => ∃ (j : Nat), v81 = .int .i64 j ∧ j ≤ l.length ∧ v5 = .bool ((l.take j).foldl stT (true, S)).1 ∧ Aside0 (kq = l.length - j) ∧ Aside0 (ChkAt (w.alloc (.cells #[.slice (some ad) ls.length c0, .int .i64 0, .int .i64 2147483648, .int .u64 0] 74)) (w.heap.size + 1) ((l.take j).foldl stT (true, S)).2 w'))
      case atStart => exact ⟨0, rfl, Nat.zero_le _, rfl, ⟨rfl⟩, HCI⟩
      case round =>
       obtain ⟨j, rfl, hj, rfl, HKj, HCj⟩ := hrel
       obtain ⟨st, hst⟩ : ∃ st, (l.take j).foldl stT (true, S) = st := ⟨_, rfl⟩
       rw [hst]
       have HST := Aside0.mk hst
       rw [hst] at HCj
       clear hst
       obtain ⟨b2, S2⟩ := st
       dsimp only
       by_cases hjl : j < l.length
       ·obtain ⟨k2, rfl⟩ : ∃ k2, gk = k2 + 1 := ⟨gk - 1, by have := HKj.out; omega⟩
        have HK2 := Aside0.mk (show k2 = l.length - (j + 1) by have := HKj.out; omega)
        obtain ⟨ad2, ea2, y0, y1, y2, y3, y4⟩ := at_T44 (Kd.C_below HC1.out HCj.out.below) (j : Int) (Int.natCast_nonneg _) (by omega)
        subst ea2
        rw [Int.toNat_natCast] at y0 y1 y2 y3 y4
        obtain ⟨x, hx⟩ : ∃ x, rd_T44 l (j : Int) = x := ⟨_, rfl⟩
        rw [hx] at y0 y1 y2 y3 y4
        have hstep : (l.take (j + 1)).foldl stT (true, S) = stT (b2, S2) x := by
         rw [List.take_add_one, List.foldl_append, HST.out, List.getElem?_eq_getElem hjl, Option.toList_some, ← hx, rd44_getElem l j hjl]
         rfl
        have HSTEP := Aside0.mk hstep
        have hal := below_alloc (Below.refl wr.heap.size wr) (.cells #[.int .i64 x.f0, .int .i64 x.f1, .int .i64 x.f2, .string x.f3, .string x.f4] 44)
        have HAL := Aside0.mk hal
        have HBX := Aside0.mk (World.alloc_heap_new wr (.cells #[.int .i64 x.f0, .int .i64 x.f1, .int .i64 x.f2, .string x.f3, .string x.f4] 44))
        have HCA := Aside0.mk (HCj.out.next hal)
        have hwj := wrap_up j l.length hjl HC1.out.2.1
        clear hx hstep hal
        cases b2
        ·cases hf : fileR x
         ·go_wp2_with (go_at_call 63; refine (manifest_fileRight.calls x.f0 x.f1 x.f2 x.f3 x.f4 (fileR x) _ (fileR_val x)).mono ?_; rintro e w3 ⟨rfl, hb⟩; rw [hf]; have HC3 := Aside0.mk (HCA.out.next hb); have hbx := (hb.block wr.heap.size (by simp)).trans HBX.out; have q0 := (blk_cell1 hbx 0 rfl).1; obtain ⟨W', hup, hS', hg⟩ := HC3.out.set.update x.f0; have HS' := Aside0.mk hS'; have HG' := Aside0.mk hg; clear hS' hg hb hbx)
          go_roundg k2
          case measure => omega
          case rel => exact ⟨j + 1, by first | rfl | (congr 1; omega) | (simp [hwj]; done), by omega, by rw [HSTEP.out]; simp [stT, hf], HK2, ⟨by rw [HSTEP.out]; exact HC3.out.store HS'.out HG'.out⟩⟩
         ·by_cases hm : x.f0 ∈ S2
          ·go_wp2_with (go_at_call 63; refine (manifest_fileRight.calls x.f0 x.f1 x.f2 x.f3 x.f4 (fileR x) _ (fileR_val x)).mono ?_; rintro e w3 ⟨rfl, hb⟩; rw [hf]; have HC3 := Aside0.mk (HCA.out.next hb); have hbx := (hb.block wr.heap.size (by simp)).trans HBX.out; have q0 := (blk_cell1 hbx 0 rfl).1; obtain ⟨W', hup, hS', hg⟩ := HC3.out.set.update x.f0; have HS' := Aside0.mk hS'; have HG' := Aside0.mk hg; clear hS' hg hb hbx; have hlk := HC3.out.set.lookup x.f0; rw [decide_eq_true hm] at hlk; have n2 := below_keep HC3.out.below (blk_cell1 (World.alloc_heap_new w (.cells #[.slice (some ad) ls.length c0, .int .i64 0, .int .i64 2147483648, .int .u64 0] 74)) 2 rfl).1)
           go_roundg k2
           case measure => omega
           case rel => exact ⟨j + 1, by first | rfl | (congr 1; omega) | (simp [hwj]; done), by omega, by rw [HSTEP.out]; simp [stT, hf, hm], HK2, ⟨by rw [HSTEP.out]; exact HC3.out.store HS'.out HG'.out⟩⟩
          ·go_wp2_with (go_at_call 63; refine (manifest_fileRight.calls x.f0 x.f1 x.f2 x.f3 x.f4 (fileR x) _ (fileR_val x)).mono ?_; rintro e w3 ⟨rfl, hb⟩; rw [hf]; have HC3 := Aside0.mk (HCA.out.next hb); have hbx := (hb.block wr.heap.size (by simp)).trans HBX.out; have q0 := (blk_cell1 hbx 0 rfl).1; obtain ⟨W', hup, hS', hg⟩ := HC3.out.set.update x.f0; have HS' := Aside0.mk hS'; have HG' := Aside0.mk hg; clear hS' hg hb hbx; have hlk := HC3.out.set.lookup x.f0; rw [decide_eq_false hm] at hlk; have n2 := below_keep HC3.out.below (blk_cell1 (World.alloc_heap_new w (.cells #[.slice (some ad) ls.length c0, .int .i64 0, .int .i64 2147483648, .int .u64 0] 74)) 2 rfl).1)
           go_roundg k2
           case measure => omega
           case rel => exact ⟨j + 1, by first | rfl | (congr 1; omega) | (simp [hwj]; done), by omega, by rw [HSTEP.out]; simp [stT, hf, hm], HK2, ⟨by rw [HSTEP.out]; exact HC3.out.store HS'.out HG'.out⟩⟩
        ·obtain ⟨W', hup, hS', hg⟩ := HCA.out.set.update x.f0
         have HS' := Aside0.mk hS'
         have HG' := Aside0.mk hg
         clear hS' hg
         go_wp2
         go_roundg k2
         case measure => omega
         case rel => exact ⟨j + 1, by first | rfl | (congr 1; omega) | (simp [hwj]; done), by omega, by rw [HSTEP.out]; rfl, HK2, ⟨by rw [HSTEP.out]; exact HCA.out.store HS'.out HG'.out⟩⟩
       ·obtain rfl : j = l.length := by omega
        have hfin : stTo ls (i + 1) = (b2, S2) := by
         rw [HLS.out]
         unfold stL
         rw [HB.out, HS.out]
         have h := HST.out
         rw [List.take_length] at h
         exact (by rw [ho]; simpa using h)
        have HFIN := Aside0.mk hfin
        clear hfin
        go_wp2
        go_roundg k1
        case measure => omega
        case rel => exact ⟨i + 1, by first | rfl | (congr 1; omega) | (simp [hwi]; done), by omega, by rw [HFIN.out], HK1, ⟨by rw [HFIN.out]; exact HCj.out⟩⟩
     ·go_wp2_with (go_at_call 62; refine (manifest_ordered.calls K (i : Int) A1 c1 l (ordF i l) _ (Kd.C_below HC1.out HC.out.below) HL1.out HO.out).mono ?_; rintro e w5 ⟨rfl, hd⟩; rw [ho]; have HCI := Aside0.mk (HC.out.next hd.below); clear hd x0)
      go_loopg [5, 81] l.length (fun kq v5 v81 w' => ∃ (j : Nat), v81 = .int .i64 j ∧ j ≤ l.length ∧ v5 = .bool ((l.take j).foldl stT (false, S)).1 ∧ Aside0 (kq = l.length - j) ∧ Aside0 (ChkAt (w.alloc (.cells #[.slice (some ad) ls.length c0, .int .i64 0, .int .i64 2147483648, .int .u64 0] 74)) (w.heap.size + 1) ((l.take j).foldl stT (false, S)).2 w'))
      case atStart => exact ⟨0, rfl, Nat.zero_le _, rfl, ⟨rfl⟩, HCI⟩
      case round =>
       obtain ⟨j, rfl, hj, rfl, HKj, HCj⟩ := hrel
       obtain ⟨st, hst⟩ : ∃ st, (l.take j).foldl stT (false, S) = st := ⟨_, rfl⟩
       rw [hst]
       have HST := Aside0.mk hst
       rw [hst] at HCj
       clear hst
       obtain ⟨b2, S2⟩ := st
       dsimp only
       by_cases hjl : j < l.length
       ·obtain ⟨k2, rfl⟩ : ∃ k2, gk = k2 + 1 := ⟨gk - 1, by have := HKj.out; omega⟩
        have HK2 := Aside0.mk (show k2 = l.length - (j + 1) by have := HKj.out; omega)
        obtain ⟨ad2, ea2, y0, y1, y2, y3, y4⟩ := at_T44 (Kd.C_below HC1.out HCj.out.below) (j : Int) (Int.natCast_nonneg _) (by omega)
        subst ea2
        rw [Int.toNat_natCast] at y0 y1 y2 y3 y4
        obtain ⟨x, hx⟩ : ∃ x, rd_T44 l (j : Int) = x := ⟨_, rfl⟩
        rw [hx] at y0 y1 y2 y3 y4
        have hstep : (l.take (j + 1)).foldl stT (false, S) = stT (b2, S2) x := by
         rw [List.take_add_one, List.foldl_append, HST.out, List.getElem?_eq_getElem hjl, Option.toList_some, ← hx, rd44_getElem l j hjl]
         rfl
        have HSTEP := Aside0.mk hstep
        have hal := below_alloc (Below.refl wr.heap.size wr) (.cells #[.int .i64 x.f0, .int .i64 x.f1, .int .i64 x.f2, .string x.f3, .string x.f4] 44)
        have HAL := Aside0.mk hal
        have HBX := Aside0.mk (World.alloc_heap_new wr (.cells #[.int .i64 x.f0, .int .i64 x.f1, .int .i64 x.f2, .string x.f3, .string x.f4] 44))
        have HCA := Aside0.mk (HCj.out.next hal)
        have hwj := wrap_up j l.length hjl HC1.out.2.1
        clear hx hstep hal
        cases b2
        ·cases hf : fileR x
         ·go_wp2_with (go_at_call 63; refine (manifest_fileRight.calls x.f0 x.f1 x.f2 x.f3 x.f4 (fileR x) _ (fileR_val x)).mono ?_; rintro e w3 ⟨rfl, hb⟩; rw [hf]; have HC3 := Aside0.mk (HCA.out.next hb); have hbx := (hb.block wr.heap.size (by simp)).trans HBX.out; have q0 := (blk_cell1 hbx 0 rfl).1; obtain ⟨W', hup, hS', hg⟩ := HC3.out.set.update x.f0; have HS' := Aside0.mk hS'; have HG' := Aside0.mk hg; clear hS' hg hb hbx)
          go_roundg k2
          case measure => omega
          case rel => exact ⟨j + 1, by first | rfl | (congr 1; omega) | (simp [hwj]; done), by omega, by rw [HSTEP.out]; simp [stT, hf], HK2, ⟨by rw [HSTEP.out]; exact HC3.out.store HS'.out HG'.out⟩⟩
         ·by_cases hm : x.f0 ∈ S2
          ·go_wp2_with (go_at_call 63; refine (manifest_fileRight.calls x.f0 x.f1 x.f2 x.f3 x.f4 (fileR x) _ (fileR_val x)).mono ?_; rintro e w3 ⟨rfl, hb⟩; rw [hf]; have HC3 := Aside0.mk (HCA.out.next hb); have hbx := (hb.block wr.heap.size (by simp)).trans HBX.out; have q0 := (blk_cell1 hbx 0 rfl).1; obtain ⟨W', hup, hS', hg⟩ := HC3.out.set.update x.f0; have HS' := Aside0.mk hS'; have HG' := Aside0.mk hg; clear hS' hg hb hbx; have hlk := HC3.out.set.lookup x.f0; rw [decide_eq_true hm] at hlk; have n2 := below_keep HC3.out.below (blk_cell1 (World.alloc_heap_new w (.cells #[.slice (some ad) ls.length c0, .int .i64 0, .int .i64 2147483648, .int .u64 0] 74)) 2 rfl).1)
           go_roundg k2
           case measure => omega
           case rel => exact ⟨j + 1, by first | rfl | (congr 1; omega) | (simp [hwj]; done), by omega, by rw [HSTEP.out]; simp [stT, hf, hm], HK2, ⟨by rw [HSTEP.out]; exact HC3.out.store HS'.out HG'.out⟩⟩
          ·go_wp2_with (go_at_call 63; refine (manifest_fileRight.calls x.f0 x.f1 x.f2 x.f3 x.f4 (fileR x) _ (fileR_val x)).mono ?_; rintro e w3 ⟨rfl, hb⟩; rw [hf]; have HC3 := Aside0.mk (HCA.out.next hb); have hbx := (hb.block wr.heap.size (by simp)).trans HBX.out; have q0 := (blk_cell1 hbx 0 rfl).1; obtain ⟨W', hup, hS', hg⟩ := HC3.out.set.update x.f0; have HS' := Aside0.mk hS'; have HG' := Aside0.mk hg; clear hS' hg hb hbx; have hlk := HC3.out.set.lookup x.f0; rw [decide_eq_false hm] at hlk; have n2 := below_keep HC3.out.below (blk_cell1 (World.alloc_heap_new w (.cells #[.slice (some ad) ls.length c0, .int .i64 0, .int .i64 2147483648, .int .u64 0] 74)) 2 rfl).1)
           go_roundg k2
           case measure => omega
           case rel => exact ⟨j + 1, by first | rfl | (congr 1; omega) | (simp [hwj]; done), by omega, by rw [HSTEP.out]; simp [stT, hf, hm], HK2, ⟨by rw [HSTEP.out]; exact HC3.out.store HS'.out HG'.out⟩⟩
        ·obtain ⟨W', hup, hS', hg⟩ := HCA.out.set.update x.f0
         have HS' := Aside0.mk hS'
         have HG' := Aside0.mk hg
         clear hS' hg
         go_wp2
         go_roundg k2
         case measure => omega
         case rel => exact ⟨j + 1, by first | rfl | (congr 1; omega) | (simp [hwj]; done), by omega, by rw [HSTEP.out]; rfl, HK2, ⟨by rw [HSTEP.out]; exact HCA.out.store HS'.out HG'.out⟩⟩
       ·obtain rfl : j = l.length := by omega
        have hfin : stTo ls (i + 1) = (b2, S2) := by
         rw [HLS.out]
         unfold stL
         rw [HB.out, HS.out]
         have h := HST.out
         rw [List.take_length] at h
         exact (by rw [ho]; simpa using h)
        have HFIN := Aside0.mk hfin
        clear hfin
        go_wp2
        go_roundg k1
        case measure => omega
        case rel => exact ⟨i + 1, by first | rfl | (congr 1; omega) | (simp [hwi]; done), by omega, by rw [HFIN.out], HK1, ⟨by rw [HFIN.out]; exact HCj.out⟩⟩
    ·have HCI := HC
     go_wp2
     clear x0
     go_loopg [5, 81] l.length (fun kq v5 v81 w' => ∃ (j : Nat), v81 = .int .i64 j ∧ j ≤ l.length ∧ v5 = .bool ((l.take j).foldl stT (true, S)).1 ∧ Aside0 (kq = l.length - j) ∧ Aside0 (ChkAt (w.alloc (.cells #[.slice (some ad) ls.length c0, .int .i64 0, .int .i64 2147483648, .int .u64 0] 74)) (w.heap.size + 1) ((l.take j).foldl stT (true, S)).2 w'))
     case atStart => exact ⟨0, rfl, Nat.zero_le _, rfl, ⟨rfl⟩, HCI⟩
     case round =>
      obtain ⟨j, rfl, hj, rfl, HKj, HCj⟩ := hrel
      obtain ⟨st, hst⟩ : ∃ st, (l.take j).foldl stT (true, S) = st := ⟨_, rfl⟩
      rw [hst]
      have HST := Aside0.mk hst
      rw [hst] at HCj
      clear hst
      obtain ⟨b2, S2⟩ := st
      dsimp only
      by_cases hjl : j < l.length
      ·obtain ⟨k2, rfl⟩ : ∃ k2, gk = k2 + 1 := ⟨gk - 1, by have := HKj.out; omega⟩
       have HK2 := Aside0.mk (show k2 = l.length - (j + 1) by have := HKj.out; omega)
       obtain ⟨ad2, ea2, y0, y1, y2, y3, y4⟩ := at_T44 (Kd.C_below HC1.out HCj.out.below) (j : Int) (Int.natCast_nonneg _) (by omega)
       subst ea2
       rw [Int.toNat_natCast] at y0 y1 y2 y3 y4
       obtain ⟨x, hx⟩ : ∃ x, rd_T44 l (j : Int) = x := ⟨_, rfl⟩
       rw [hx] at y0 y1 y2 y3 y4
       have hstep : (l.take (j + 1)).foldl stT (true, S) = stT (b2, S2) x := by
        rw [List.take_add_one, List.foldl_append, HST.out, List.getElem?_eq_getElem hjl, Option.toList_some, ← hx, rd44_getElem l j hjl]
        rfl
       have HSTEP := Aside0.mk hstep
       have hal := below_alloc (Below.refl wr.heap.size wr) (.cells #[.int .i64 x.f0, .int .i64 x.f1, .int .i64 x.f2, .string x.f3, .string x.f4] 44)
       have HAL := Aside0.mk hal
       have HBX := Aside0.mk (World.alloc_heap_new wr (.cells #[.int .i64 x.f0, .int .i64 x.f1, .int .i64 x.f2, .string x.f3, .string x.f4] 44))
       have HCA := Aside0.mk (HCj.out.next hal)
       have hwj := wrap_up j l.length hjl HC1.out.2.1
       clear hx hstep hal
       cases b2
       ·cases hf : fileR x
        ·go_wp2_with (go_at_call 63; refine (manifest_fileRight.calls x.f0 x.f1 x.f2 x.f3 x.f4 (fileR x) _ (fileR_val x)).mono ?_; rintro e w3 ⟨rfl, hb⟩; rw [hf]; have HC3 := Aside0.mk (HCA.out.next hb); have hbx := (hb.block wr.heap.size (by simp)).trans HBX.out; have q0 := (blk_cell1 hbx 0 rfl).1; obtain ⟨W', hup, hS', hg⟩ := HC3.out.set.update x.f0; have HS' := Aside0.mk hS'; have HG' := Aside0.mk hg; clear hS' hg hb hbx)
         go_roundg k2
         case measure => omega
         case rel => exact ⟨j + 1, by first | rfl | (congr 1; omega) | (simp [hwj]; done), by omega, by rw [HSTEP.out]; simp [stT, hf], HK2, ⟨by rw [HSTEP.out]; exact HC3.out.store HS'.out HG'.out⟩⟩
        ·by_cases hm : x.f0 ∈ S2
         ·go_wp2_with (go_at_call 63; refine (manifest_fileRight.calls x.f0 x.f1 x.f2 x.f3 x.f4 (fileR x) _ (fileR_val x)).mono ?_; rintro e w3 ⟨rfl, hb⟩; rw [hf]; have HC3 := Aside0.mk (HCA.out.next hb); have hbx := (hb.block wr.heap.size (by simp)).trans HBX.out; have q0 := (blk_cell1 hbx 0 rfl).1; obtain ⟨W', hup, hS', hg⟩ := HC3.out.set.update x.f0; have HS' := Aside0.mk hS'; have HG' := Aside0.mk hg; clear hS' hg hb hbx; have hlk := HC3.out.set.lookup x.f0; rw [decide_eq_true hm] at hlk; have n2 := below_keep HC3.out.below (blk_cell1 (World.alloc_heap_new w (.cells #[.slice (some ad) ls.length c0, .int .i64 0, .int .i64 2147483648, .int .u64 0] 74)) 2 rfl).1)
          go_roundg k2
          case measure => omega
          case rel => exact ⟨j + 1, by first | rfl | (congr 1; omega) | (simp [hwj]; done), by omega, by rw [HSTEP.out]; simp [stT, hf, hm], HK2, ⟨by rw [HSTEP.out]; exact HC3.out.store HS'.out HG'.out⟩⟩
         ·go_wp2_with (go_at_call 63; refine (manifest_fileRight.calls x.f0 x.f1 x.f2 x.f3 x.f4 (fileR x) _ (fileR_val x)).mono ?_; rintro e w3 ⟨rfl, hb⟩; rw [hf]; have HC3 := Aside0.mk (HCA.out.next hb); have hbx := (hb.block wr.heap.size (by simp)).trans HBX.out; have q0 := (blk_cell1 hbx 0 rfl).1; obtain ⟨W', hup, hS', hg⟩ := HC3.out.set.update x.f0; have HS' := Aside0.mk hS'; have HG' := Aside0.mk hg; clear hS' hg hb hbx; have hlk := HC3.out.set.lookup x.f0; rw [decide_eq_false hm] at hlk; have n2 := below_keep HC3.out.below (blk_cell1 (World.alloc_heap_new w (.cells #[.slice (some ad) ls.length c0, .int .i64 0, .int .i64 2147483648, .int .u64 0] 74)) 2 rfl).1)
          go_roundg k2
          case measure => omega
          case rel => exact ⟨j + 1, by first | rfl | (congr 1; omega) | (simp [hwj]; done), by omega, by rw [HSTEP.out]; simp [stT, hf, hm], HK2, ⟨by rw [HSTEP.out]; exact HC3.out.store HS'.out HG'.out⟩⟩
       ·obtain ⟨W', hup, hS', hg⟩ := HCA.out.set.update x.f0
        have HS' := Aside0.mk hS'
        have HG' := Aside0.mk hg
        clear hS' hg
        go_wp2
        go_roundg k2
        case measure => omega
        case rel => exact ⟨j + 1, by first | rfl | (congr 1; omega) | (simp [hwj]; done), by omega, by rw [HSTEP.out]; rfl, HK2, ⟨by rw [HSTEP.out]; exact HCA.out.store HS'.out HG'.out⟩⟩
      ·obtain rfl : j = l.length := by omega
       have hfin : stTo ls (i + 1) = (b2, S2) := by
        rw [HLS.out]
        unfold stL
        rw [HB.out, HS.out]
        have h := HST.out
        rw [List.take_length] at h
        exact (by simpa using h)
       have HFIN := Aside0.mk hfin
       clear hfin
       go_wp2
       go_roundg k1
       case measure => omega
       case rel => exact ⟨i + 1, by first | rfl | (congr 1; omega) | (simp [hwi]; done), by omega, by rw [HFIN.out], HK1, ⟨by rw [HFIN.out]; exact HCj.out⟩⟩
   ·obtain rfl : i = ls.length := by omega
    obtain ⟨bf, hbf⟩ : ∃ bf, (stTo ls ls.length).1 = bf := ⟨_, rfl⟩
    rw [hbf]
    have HBF := Aside0.mk hbf
    have HBE := Aside0.mk (HBW.out.trans (HC.out.below.mono HBW.out.size))
    clear hbf
    cases bf
    ·have hln := fun ty => HC.out.set.len ty
     by_cases hgt : 1024 < (stTo ls ls.length).2.length
     ·have hg1 : decide ((1024 : Int) < ((stTo ls ls.length).2.length : Int)) = true := decide_eq_true (by omega)
      have hg2 : decide (1024 < (stTo ls ls.length).2.length) = true := decide_eq_true hgt
      have HF := Aside0.mk (show checkF ls = 110 by unfold checkF; rw [HBF.out, hg2]; rfl)
      go_wp2
      go_ret
      exact ⟨by rw [HF.out]; rfl, HBE.out⟩
     ·have hg1 : decide ((1024 : Int) < ((stTo ls ls.length).2.length : Int)) = false := decide_eq_false (by omega)
      have hg2 : decide (1024 < (stTo ls ls.length).2.length) = false := decide_eq_false hgt
      have HF := Aside0.mk (show checkF ls = 0 by unfold checkF; rw [HBF.out, hg2]; rfl)
      go_wp2
      go_ret
      exact ⟨by rw [HF.out]; rfl, HBE.out⟩
    ·have HF := Aside0.mk (show checkF ls = 110 by unfold checkF; rw [HBF.out]; rfl)
     go_wp2
     go_ret
     exact ⟨by rw [HF.out]; rfl, HBE.out⟩
end Go.Proofs.Ytdibolblgchpdaa.P
