/- Contracts: the program's Acts.Step. -/
import Derived.Test.YtompgphlinjglaaS6
import Derived.Deep.RegionHeld3
import Derived.Deep.AppendLies
import Derived.Deep.RegionLaw
namespace Go.Proofs.Ytompgphlinjglaa.P
open Go.RowKit Go.Proofs.YtompgphlinjglaaW.PrintWords Go.Proofs.YtompgphlinjglaaW.PrintLast Go.Proofs.YtompgphlinjglaaW.PrintMore
attribute [local go_sem] Oper.semAt_some
set_option linter.unusedVariables false
set_option linter.unusedSimpArgs false

theorem at_act {w : World} {A : Option Addr} {n : Nat} {xs : List (Int × Int)} (h : kAct.C w A n xs) (i : Nat) (h1 : i < n) :
    ∃ ad, A = some ad ∧ w.cell? (ad.add (i * 2)) = some (.int .i64 (xs.getD i (0, 0)).1) ∧ w.cell? ⟨(ad.add (i * 2)).block, (ad.add (i * 2)).off + 1, none⟩ = some (.int .i64 (xs.getD i (0, 0)).2) := by
  obtain ⟨ad, c, e, _, hK, hc⟩ := Kd.C_get h (0, 0) (i : Int) (Int.natCast_nonneg _) (by omega)
  rw [Int.toNat_natCast] at hK hc
  obtain ⟨c0, c1, rfl, k0, k1⟩ := hK
  have k0 : c0 = [.int .i64 (xs.getD i (0, 0)).1] := k0
  have k1 : c1 = [.int .i64 (xs.getD i (0, 0)).2] := k1
  subst k0 k1
  have s : kAct.sz = 2 := rfl
  rw [s] at hc
  refine ⟨ad, e, ?_, ?_⟩
  · have := hc 0 _ rfl; rwa [Nat.add_zero] at this
  · have := hc 1 _ rfl; rwa [add_field ad (i * 2) 1 (by omega)] at this
theorem ActAt.pos1 {k i b : Nat} {w w5 : World} {g g' : Nat → Tag} {t : TS} {A : Option Addr} {c : Nat} {v v' : Value} {xs : List Int} {T : Tag → Prop} (h : ActAt k i w g b t A c v) (ho : Only T g w w5) (he : Ext w.heap.size g g') (h0 : ¬ T .data)
    (hb : w5.heap[b]? = some (.cells #[.slice A t.acts.length c, .int .i64 ((t.pos : Int) + 1), v'] 91 (0, 0))) (hr : Row (Kd.int .u64) 48 w5 g' (.told k i) v' (t.told ++ xs)) : ActIs k i w5 g' b { t with pos := t.pos + 1, told := t.told ++ xs } :=
  ⟨A, c, v', hb, h.cap, h.acts.move ho he h0, hr, (he b (blk_lt h.blk)).trans h.tag⟩
theorem ownT_go {cl dv : Int} {t : TS} (h : t.pos < t.acts.length) : ownT cl dv t = { t with pos := t.pos + 1, told := t.told ++ tellF cl dv t } := by unfold ownT; rw [if_pos h]
theorem wait_go {t : TS} (h : t.pos < t.acts.length) (h2 : (actF t).1 = 2) : waitF t = (actF t).2 := by unfold waitF; rw [if_pos ⟨h, h2⟩]
theorem wait_no {t : TS} (h2 : (actF t).1 ≠ 2) : waitF t = 0 := by unfold waitF; rw [if_neg (fun hh => h2 hh.2)]
theorem wakes_go {t : TS} (h : t.pos < t.acts.length) (h2 : (actF t).1 = 3) : wakesF t = [(actF t).2] := by unfold wakesF; rw [if_pos ⟨h, h2⟩]
theorem wakes_no {t : TS} (h2 : (actF t).1 ≠ 3) : wakesF t = [] := by unfold wakesF; rw [if_neg (fun hh => h2 hh.2)]
theorem tell_no {cl dv : Int} {t : TS} (h4 : (actF t).1 ≠ 4) (h5 : (actF t).1 ≠ 5) : tellF cl dv t = [] := by unfold tellF; rw [if_neg h4, if_neg h5]
theorem tell_now {cl dv : Int} {t : TS} (h4 : (actF t).1 = 4) : tellF cl dv t = [cl] := by unfold tellF; rw [if_pos h4]
theorem tell_draw {cl dv : Int} {t : TS} (h5 : (actF t).1 = 5) : tellF cl dv t = [dv] := by unfold tellF; rw [if_neg (by omega), if_pos h5]
theorem drew_no {t : TS} (h5 : (actF t).1 ≠ 5) : drewT t = 0 := by unfold drewT; rw [if_neg (fun hh => h5 hh.2)]
theorem drew_yes {t : TS} (h : t.pos < t.acts.length) (h5 : (actF t).1 = 5) : drewT t = 1 := by unfold drewT; rw [if_pos ⟨h, h5⟩]
/-- What a task's step leaves. -/
def TA (k i : Nat) : Tag → Prop := fun t => t = .env k ∨ t = .act k i ∨ t = .told k i
def putv (g : Nat → Tag) (v : Value) (t : Tag) : Nat → Tag := fun j => if v.ownBlock = some j then t else g j
theorem putv_ext {g : Nat → Tag} {v : Value} {t : Tag} {n : Nat} (h : ∀ j, v.ownBlock = some j → j < n → g j = t) : Ext n g (putv g v t) := fun j hj => by
  unfold putv
  by_cases e : v.ownBlock = some j
  · rw [if_pos e]; exact (h j e hj).symm
  · rw [if_neg e]
theorem putv_at {g : Nat → Tag} {v : Value} {t : Tag} {j : Nat} (h : v.ownBlock = some j) : putv g v t j = t := if_pos h
theorem putv_no {g : Nat → Tag} {v : Value} {t : Tag} {j : Nat} (h : v.ownBlock ≠ some j) : putv g v t j = g j := if_neg h
theorem tell_end {k i b : Nat} {w W w2 : World} {g : Nat → Tag} {t : TS} {A : Option Addr} {c : Nat} {v v2 : Value} {x : Int} (h : ActAt k i w g b t A c v) (O4 : Only (TA k i) g w W) (hR : (Kd.int .u64).R 48 W 0 (fun _ => True) v t.told)
    (BK : W.heap[b]? = some (.cells #[.slice A t.acts.length c, .int .i64 ((t.pos : Int) + 1), v] 91 (0, 0))) (ho : (Kd.int .u64).R 48 w2 0 (fun _ => True) v2 (t.told ++ [x])) (hg : W.grownBy w2 v.ownBlock)
    (hat : v2.ownBlock = v.ownBlock ∨ ∃ j, v2.ownBlock = some j ∧ W.heap.size ≤ j) (hs : w.heap.size < W.heap.size) (hg0 : ∀ j, w.heap.size ≤ j → g j = .other) :
    (w2.heap[b]? = some (.cells #[.slice A t.acts.length c, .int .i64 ((t.pos : Int) + 1), v] 91 (0, 0))) ∧ ∃ g' : Nat → Tag, (Ext w.heap.size g g' ∧ g' w.heap.size = .other ∧ ∀ j, w.heap.size ≤ j → g' j = .other ∨ g' j = .told k i) ∧ Only (TA k i) g w (w2.setCell ⟨b, 2, none⟩ v2) ∧ ActIs k i (w2.setCell ⟨b, 2, none⟩ v2) g' b { t with pos := t.pos + 1, told := t.told ++ [x] } ∧
      ∀ (j : Nat) (cs : Array Value) (ty : Nat), W.heap[j]? = some (.cells cs ty (0, 0)) → ty ≠ 48 → j ≠ b → (w2.setCell ⟨b, 2, none⟩ v2).heap[j]? = some (.cells cs ty (0, 0)) := by
  have BK2 := blk_grown BK hg (Kd.R_ne hR BK (by decide))
  have hlt : ∀ j, v.ownBlock = some j → j < w.heap.size := fun j hj => Kd.R_lt h.told.1 j hj
  have he : Ext w.heap.size g (putv g v2 (.told k i)) := putv_ext (fun j hj hn => by
    rcases hat with hat | ⟨j', hj', hle⟩
    · exact h.told.2 j (by rw [← hat]; exact hj)
    · rw [hj'] at hj; injection hj with hj; omega)
  have ho5 : Only (TA k i) g w (w2.setCell ⟨b, 2, none⟩ v2) := (O4.grown hg (fun j hj => .inl (.inr (.inr (h.told.2 j hj))))).setCell (p := ⟨b, 2, none⟩) (.inl (.inr (.inl h.tag))) v2
  refine ⟨BK2, putv g v2 (.told k i), ⟨he, ?_, fun j hj => ?_⟩, ho5, ?_, fun j cs ty hj ht hn => ?_⟩
  · rw [putv_no (fun hc => by
      rcases hat with hat | ⟨j', hj', hle⟩
      · have := hlt _ (by rw [← hat]; exact hc); omega
      · rw [hj'] at hc; injection hc with hc; omega)]
    exact hg0 _ (Nat.le_refl _)
  · by_cases e : v2.ownBlock = some j
    · exact .inr (putv_at e)
    · rw [putv_no e]; exact .inl (hg0 j hj)
  · exact h.pos1 ho5 he (by unfold TA; simp) (blk_put BK2 2 _ rfl) ⟨Kd.R_set ho BK2 (by decide) 2 v2, fun j hj => putv_at hj⟩
  · exact blk_far (blk_grown hj hg (Kd.R_ne hR hj (Ne.symm ht))) (p := ⟨b, 2, none⟩) hn v2
theorem tell_own {w : World} {v : Value} {xs : List Int} (h : (Kd.int .u64).R 48 w 0 (fun _ => True) v xs) : w.ownsRow 0 48 1 v xs.length (encs (Value.int .u64) xs) := Kd.own_of_R h
theorem tell_R {w : World} {v : Value} {xs : List Int} {x : Int} (h : w.ownsRow 0 48 1 v (xs.length + 1) (encs (Value.int .u64) xs ++ [.int .u64 x])) : (Kd.int .u64).R 48 w 0 (fun _ => True) v (xs ++ [x]) := by
  refine Kd.R_of_own (h1 := fun _ => rfl) ?_ (fun _ _ => trivial)
  rw [List.length_append, encs_append]
  exact h
theorem tell_grown' {W w2 : World} {x : Int} {row : Option Nat} (h : (W.alloc (.cells #[.int .u64 x] 48)).grownBy w2 row) : W.grownBy w2 row := World.grownBy.trans (World.grownBy_alloc W _ row) h
theorem tell_grown {W w2 : World} {x : Int} {row : Option Nat} (h : (W.alloc (.cells #[.int .u64 x] 48)).drew.grownBy w2 row) : W.grownBy w2 row := World.grownBy.trans (World.grownBy_alloc W _ row) ⟨h.os, h.tape, h.output, h.size, h.block⟩
set_option maxHeartbeats 8000000 in
set_option maxRecDepth 100000 in
theorem actEnd_calls {k i b e : Nat} {w : World} {g : Nat → Tag} {t : TS} {A : Option Addr} {c : Nat} {v : Value} (h : ActAt k i w g b t A c v) (hp : t.acts.length ≤ t.pos) :
    Calls Try.prog 26 #[.pointer (some ⟨b, 0, none⟩), .pointer (some ⟨e, 0, none⟩)] w fun ev w' => ev = .returned (.agg #[.bool true, .int .i64 0, .slice none 0 0]) ∧ Below w.heap.size w w' := by
  have c0 := (blkc h.blk 0 rfl).1
  have c1 := (blkc h.blk 1 rfl).1
  have hlt := blk_lt h.blk
  have d1 : decide (t.acts.length ≤ t.pos) = true := decide_eq_true hp
  clear h hp
  go_enter Try.func26, Try.ntmps26
  go_wp2
  go_quiet (fail)
  go_wp2
  exact bodyPost_ret (v := .agg #[.bool true, .int .i64 0, .slice none 0 0]) (by simp [results, Try.results26, go_sem]) rfl ⟨rfl, (((((Below.refl _ _).alloc (Nat.le_refl _) _).trans (pw_below_drewN (Below.refl _ _) nq)).setCell (Nat.le_refl _) _).setCell (Nat.le_refl _) _).setCell (Nat.le_refl _) _⟩
set_option maxHeartbeats 8000000 in
set_option maxRecDepth 100000 in
theorem actGo_calls {k i b e c2 dr : Nat} {w : World} {g : Nat → Tag} {t : TS} {A A2 : Option Addr} {c : Nat} {v : Value} {cl : Int} {ds : List Int} (h : ActAt k i w g b t A c v) (hp : t.pos < t.acts.length) (hpt : t.told.length ≤ t.pos) (hmx : t.acts.length ≤ 8796093022208)
    (hE : w.heap[e]? = some (.cells #[.int .u64 cl, .slice A2 ds.length c2, .int .i64 dr] 83 (0, 0))) (hD : Dat (Kd.int .u64) w g A2 ds.length ds) (hte : g e = .env k) (hdr : dr ≤ 4611686018427387904) (hdl : ds.length ≤ 65536) (hg : ∀ j, w.heap.size ≤ j → g j = .other) :
    Calls Try.prog 26 #[.pointer (some ⟨b, 0, none⟩), .pointer (some ⟨e, 0, none⟩)] w fun ev w' => ∃ vw g', ev = .returned (.agg #[.bool (doneF t), .int .i64 (waitF t), vw]) ∧ Kd.R (Kd.int .i64) 3 w' w.heap.size (fun _ => True) vw (wakesF t) ∧ (Ext w.heap.size g g' ∧ ∀ j, w.heap.size ≤ j → g' j = .other ∨ g' j = .told k i) ∧ Only (TA k i) g w w' ∧
      ActIs k i w' g' b (ownT cl (drawOf ds dr) t) ∧ w'.heap[e]? = some (.cells #[.int .u64 cl, .slice A2 ds.length c2, .int .i64 (dr + drewT t : Nat)] 83 (0, 0)) := by
  obtain ⟨A1, q1, rfl⟩ := Kd.R_slice h.told.1
  have c0 := (blkc h.blk 0 rfl).1
  obtain ⟨c1, c1f⟩ := blkc h.blk 1 rfl
  have hlt := blk_lt h.blk
  have d1 : decide (t.acts.length ≤ t.pos) = false := decide_eq_false (by omega)
  obtain ⟨ad, ea, x0, x1⟩ := at_act h.acts.now t.pos hp
  subst ea
  have HT := Aside0.mk hpt
  have HMX := Aside0.mk hmx
  have HG := Aside0.mk hg
  have HDR := Aside0.mk hdr
  have hp2 : (t.pos : Int) < (t.acts.length : Int) := by omega
  have hp3 : t.acts.length ≤ 9223372036854775807 := by omega
  clear hpt hmx hdr hg
  go_enter Try.func26, Try.ntmps26
  go_wp2
  go_quiet (fail)
  go_wp2
  have HB1 := Aside0.mk (show Below w.heap.size w ((w.alloc (.cells #[.bool false, .int .i64 0, .slice none 0 0] 65)).drewN nq) from pw_below_drewN ((Below.refl _ _).alloc (Nat.le_refl _) _) nq)
  have R1 := Aside0.mk (show ((w.alloc (.cells #[.bool false, .int .i64 0, .slice none 0 0] 65)).drewN nq).heap[w.heap.size]? = some (.cells #[.bool false, .int .i64 0, .slice none 0 0] 65 (0, 0)) from blk_new w _)
  generalize (w.alloc (.cells #[.bool false, .int .i64 0, .slice none 0 0] 65)).drewN nq = w1 at HB1 R1 ⊢
  have hS : ∀ w', Below w.heap.size w w' → w'.cell? ⟨b, 0, none⟩ = some (.slice (some ad) t.acts.length c) ∧ w'.cell? ⟨b, 1, none⟩ = some (.int .i64 t.pos) ∧ w'.cell? (ad.add (t.pos * 2)) = some (.int .i64 (actF t).1) ∧ w'.cell? ⟨(ad.add (t.pos * 2)).block, (ad.add (t.pos * 2)).off + 1, none⟩ = some (.int .i64 (actF t).2) := fun w' h2 =>
    ⟨pw_cell_below h2 c0, pw_cell_below h2 c1, pw_cell_below h2 x0, pw_cell_below h2 x1⟩
  obtain ⟨s0, s1, s2, s3⟩ := hS w1 HB1.out
  have HS := Aside0.mk hS
  have HA := Aside0.mk h
  clear hS c0 c1 x0 x1 h
  go_cut [5] (fun v5 wc => ∃ b5, v5 = .pointer (some ⟨b5, 0, none⟩) ∧ w.heap.size < b5 ∧ Aside0 (wc.heap[w.heap.size]? = some (.cells #[.bool false, .int .i64 0, .slice none 0 0] 65 (0, 0))) ∧ Aside0 (wc.heap[b5]? = some (.cells #[.int .i64 (actF t).1, .int .i64 (actF t).2] 31 (0, 0))) ∧ Aside0 (Below w.heap.size w wc))
  case first =>
    go_region_held3 (fun w' => w'.cell? ⟨b, 0, none⟩ = some (.slice (some ad) t.acts.length c) ∧ w'.cell? ⟨b, 1, none⟩ = some (.int .i64 t.pos) ∧ w'.cell? (ad.add (t.pos * 2)) = some (.int .i64 (actF t).1) ∧ w'.cell? ⟨(ad.add (t.pos * 2)).block, (ad.add (t.pos * 2)).off + 1, none⟩ = some (.int .i64 (actF t).2)) (exact HS.out _ (by first | exact HB1.out | exact below_drew HB1.out | exact below_alloc HB1.out _ | exact below_drew (below_alloc HB1.out _) | exact below_alloc (below_drew HB1.out) _)) (first | (fail))
    go_wp2
    go_meet
    case rel => exact ⟨w1.heap.size, rfl, blk_lt R1.out, ⟨blk_drew (blk_alloc R1.out _)⟩, ⟨blk_drew (blk_new w1 _)⟩, ⟨below_drew (below_alloc HB1.out _)⟩⟩
  case rest =>
    obtain ⟨b5, rfl, h5, R2, X2, HB2⟩ := hcut
    clear R1 HB1 s0 s1 s2 s3 d1
    obtain ⟨s0, s1, _, _⟩ := HS.out wc HB2.out
    have hf := (blkc (blk_below HA.out.blk HB2.out) 1 rfl).2
    go_upto_region 5 with (fail)
    have BK := Aside0.mk (blk_set (blk_below HA.out.blk HB2.out) 1 (.int .i64 ((t.pos : Int) + 1)))
    have EN := Aside0.mk (show (wc.setCell ⟨b, 1, none⟩ (.int .i64 ((t.pos : Int) + 1))).heap[e]? = _ from blk_far (blk_below hE HB2.out) (p := ⟨b, 1, none⟩) (by intro e_; have e1 : e = b := e_; have := HA.out.tag; rw [← e1, hte] at this; cases this) _)
    have ne : w.heap.size ≠ b := by omega
    have ne5 : b5 ≠ b := by omega
    have R3 := Aside0.mk (blk_far R2.out (p := ⟨b, 1, none⟩) ne (.int .i64 ((t.pos : Int) + 1)))
    have X3 := Aside0.mk (blk_far X2.out (p := ⟨b, 1, none⟩) ne5 (.int .i64 ((t.pos : Int) + 1)))
    have O3 := Aside0.mk ((Only.of_below HB2.out (fun t => t = .act k i) g).setCell (p := ⟨b, 1, none⟩) (.inl HA.out.tag) (.int .i64 ((t.pos : Int) + 1)))
    clear s0 s1 hf R2 X2 HB2
    generalize wc.setCell ⟨b, 1, none⟩ (.int .i64 ((t.pos : Int) + 1)) = w3 at BK EN R3 X3 O3 ⊢
    obtain ⟨b1, _⟩ := blkc BK.out 1 rfl
    have b0 := (blkc BK.out 0 rfl).1
    have hS3 : ∀ w', Below w3.heap.size w3 w' → w'.cell? ⟨b, 0, none⟩ = some (.slice (some ad) t.acts.length c) ∧ w'.cell? ⟨b, 1, none⟩ = some (.int .i64 ((t.pos : Int) + 1)) := fun w' h2 => ⟨pw_cell_below h2 b0, pw_cell_below h2 b1⟩
    have HS3 := Aside0.mk hS3
    have HR3 := Aside0.mk (Below.refl w3.heap.size w3)
    clear hS3
    go_cut [6] (fun v6 wc => ∃ b6, v6 = .pointer (some ⟨b6, 0, none⟩) ∧ w.heap.size < b6 ∧ b6 ≠ b5 ∧ Aside0 (wc.heap[b6]? = some (.cells #[.bool (doneF t), .int .i64 0, .slice none 0 0] 65 (0, 0))) ∧ Aside0 (w3.heap.size ≤ b6) ∧ Aside0 (Below w3.heap.size w3 wc))
    case first =>
      go_region_held3 (fun w' => w'.cell? ⟨b, 0, none⟩ = some (.slice (some ad) t.acts.length c) ∧ w'.cell? ⟨b, 1, none⟩ = some (.int .i64 ((t.pos : Int) + 1))) (exact HS3.out _ (by first | exact HR3.out | exact below_drew HR3.out | exact below_alloc HR3.out _ | exact below_drew (below_alloc HR3.out _) | exact below_alloc (below_drew HR3.out) _)) (first | (fail))
      go_wp2
      go_meet
      case rel =>
        have ed : ((t.pos : Int) + 1 == (t.acts.length : Int)) = doneF t := by
          unfold doneF
          rw [Bool.eq_iff_iff]
          simp
          omega
        exact ⟨w3.heap.size, rfl, blk_lt R3.out, by have := blk_lt X3.out; omega, ⟨by rw [← ed]; exact blk_drew (blk_new w3 _)⟩, ⟨Nat.le_refl _⟩, ⟨below_drew (below_alloc (Below.refl _ _) _)⟩⟩
    case rest =>
      obtain ⟨b6, rfl, h6, h65, Y4, H6, HB4⟩ := hcut
      have BK4 := Aside0.mk (blk_below BK.out HB4.out)
      have EN4 := Aside0.mk (blk_below EN.out HB4.out)
      have R4 := Aside0.mk (blk_below R3.out HB4.out)
      have X4 := Aside0.mk (blk_below X3.out HB4.out)
      have O4 := Aside0.mk (O3.out.below HB4.out)
      obtain ⟨x0, _⟩ := blkc X4.out 0 rfl
      obtain ⟨x1, _⟩ := blkc X4.out 1 rfl
      clear b0 b1 HS3 HR3 HB4 BK EN R3 X3 O3 H6
      go_upto_block 0 with (fail)
      have HK := Aside0.mk hp
      clear x0
      go_cut [] (fun wc => ∃ vw g', Aside0 (wc.heap[w.heap.size]? = some (.cells #[.bool false, .int .i64 0, .slice none 0 0] 65 (0, 0))) ∧ Aside0 (wc.heap[b6]? = some (.cells #[.bool (doneF t), .int .i64 (waitF t), vw] 65 (0, 0))) ∧ Aside0 (Kd.R (Kd.int .i64) 3 wc w.heap.size (fun _ => True) vw (wakesF t)) ∧ Aside0 (Ext w.heap.size g g' ∧ g' w.heap.size = .other ∧ ∀ j, w.heap.size ≤ j → g' j = .other ∨ g' j = .told k i) ∧ Aside0 (Only (TA k i) g w wc) ∧
        Aside0 (ActIs k i wc g' b (ownT cl (drawOf ds dr) t)) ∧ Aside0 (wc.heap[e]? = some (.cells #[.int .u64 cl, .slice A2 ds.length c2, .int .i64 (dr + drewT t : Nat)] 83 (0, 0))))
      case first =>
        have neb6 : b6 ≠ b := by omega
        have nebe : b ≠ e := by intro e_; have := HA.out.tag; rw [e_, hte] at this; cases this
        have neb6e : b6 ≠ e := by have := blk_lt hE; omega
        have hr6 : w.heap.size ≠ b6 := by omega
        have h5e : b5 ≠ e := by have := blk_lt hE; omega
        have hfb := blk_frozen Y4.out
        by_cases k2 : (actF t).1 = 2
        · have e2 : ((actF t).1 == 2) = true := by simp [k2]
          have K := Aside0.mk k2
          have hf1 := hfb 1
          obtain ⟨y1, _⟩ := blkc Y4.out 1 rfl
          clear k2 hfb
          go_wp2
          go_meet
          case rel =>
            have O5 := O4.out.setCell (p := ⟨b6, 1, none⟩) (.inr (by show w.heap.size ≤ b6; omega)) (.int .i64 (actF t).2)
            refine ⟨.slice none 0 0, g, ⟨blk_far R4.out (p := ⟨b6, 1, none⟩) hr6 _⟩, ⟨?_⟩, ⟨?_⟩, ⟨Ext.refl _ _, HG.out _ (Nat.le_refl _), fun j hj => .inl (HG.out j hj)⟩, ⟨O5.mono (fun _ h => .inr (.inl h))⟩, ⟨?_⟩, ⟨?_⟩⟩
            · rw [wait_go HK.out K.out]; exact blk_put Y4.out 1 _ rfl
            · rw [wakes_no (by rw [K.out]; decide)]; exact Kd.R_nil _ _ _ _ _
            · rw [ownT_go HK.out, tell_no (by rw [K.out]; decide) (by rw [K.out]; decide)]
              exact HA.out.pos1 O5 (Ext.refl _ _) (by simp) (blk_far BK4.out (p := ⟨b6, 1, none⟩) (Ne.symm neb6) _) (by rw [List.append_nil]; exact HA.out.told.move rfl O5 (Ext.refl _ _) (by simp))
            · rw [drew_no (by rw [K.out]; decide)]
              exact blk_far EN4.out (p := ⟨b6, 1, none⟩) (Ne.symm neb6e) _
        by_cases k3 : (actF t).1 = 3
        · have e2 : ((actF t).1 == 2) = false := by simp [k3]
          have e3 : ((actF t).1 == 3) = true := by simp [k3]
          have K := Aside0.mk k3
          have hf2 := hfb 2
          obtain ⟨y2, _⟩ := blkc Y4.out 2 rfl
          clear k2 k3 hfb
          go_upto_region 10 with (fail)
          have hs5 : (wc.setCell ⟨b6, 2, none⟩ (.slice (some ⟨wc.heap.size, 0, none⟩) 1 1)).heap.size = wc.heap.size := by simp [World.setCell]
          have hl5 := World.ownsRow_lit (base := w.heap.size) (e := 3) (size := 1) (wc.setCell ⟨b6, 2, none⟩ (.slice (some ⟨wc.heap.size, 0, none⟩) 1 1)) #[.int .i64 (actF t).2] 1 (by rw [hs5]; exact Nat.le_trans (Nat.le_of_lt h6) (Nat.le_of_lt (blk_lt Y4.out))) (by decide) rfl
          rw [hs5] at hl5
          have HL := Aside0.mk (show (Kd.int .i64).R 3 ((wc.setCell ⟨b6, 2, none⟩ (.slice (some ⟨wc.heap.size, 0, none⟩) 1 1)).alloc (.cells #[.int .i64 (actF t).2] 3)) w.heap.size (fun _ => True) (.slice (some ⟨wc.heap.size, 0, none⟩) 1 1) [(actF t).2] from Kd.R_of_own (h1 := fun _ => rfl) hl5 (fun _ _ => trivial))
          have hlt6 := blk_lt Y4.out
          clear hs5 hl5
          go_wp2
          go_meet
          case rel =>
            have O5 := (O4.out.setCell (p := ⟨b6, 2, none⟩) (.inr (by show w.heap.size ≤ b6; omega)) (.slice (some ⟨wc.heap.size, 0, none⟩) 1 1)).alloc (.cells #[.int .i64 (actF t).2] 3)
            refine ⟨.slice (some ⟨wc.heap.size, 0, none⟩) 1 1, g, ⟨blk_alloc (blk_far R4.out (p := ⟨b6, 2, none⟩) hr6 _) _⟩, ⟨?_⟩, ⟨?_⟩, ⟨Ext.refl _ _, HG.out _ (Nat.le_refl _), fun j hj => .inl (HG.out j hj)⟩, ⟨O5.mono (fun _ h => .inr (.inl h))⟩, ⟨?_⟩, ⟨?_⟩⟩
            · rw [wait_no (by rw [K.out]; decide)]; exact blk_alloc (blk_put Y4.out 2 _ rfl) _
            · rw [wakes_go HK.out K.out]
              exact HL.out
            · rw [ownT_go HK.out, tell_no (by rw [K.out]; decide) (by rw [K.out]; decide)]
              exact HA.out.pos1 O5 (Ext.refl _ _) (by simp) (blk_alloc (blk_far BK4.out (p := ⟨b6, 2, none⟩) (Ne.symm neb6) _) _) (by rw [List.append_nil]; exact HA.out.told.move rfl O5 (Ext.refl _ _) (by simp))
            · rw [drew_no (by rw [K.out]; decide)]
              exact blk_alloc (blk_far EN4.out (p := ⟨b6, 2, none⟩) (Ne.symm neb6e) _) _
        by_cases k4 : (actF t).1 = 4
        · have e2 : ((actF t).1 == 2) = false := by simp [k4]
          have e3 : ((actF t).1 == 3) = false := by simp [k4]
          have e4 : ((actF t).1 == 4) = true := by simp [k4]
          have K := Aside0.mk k4
          clear k2 k3 k4 hfb
          go_upto_region 12 with (fail)
          obtain ⟨z2, _⟩ := blkc BK4.out 2 rfl
          have HRW := Aside0.mk (HA.out.told.move rfl O4.out (Ext.refl _ _) (by simp)).1
          have O4T := Aside0.mk (O4.out.mono (T' := TA k i) (fun _ h => .inr (.inl h)))
          have hsz : w.heap.size < wc.heap.size := blk_lt R4.out
          obtain ⟨i48, hi0, hz0, hz1, hz2⟩ := info_parts info48
          have hown := Aside0.mk (tell_own HRW.out)
          have hln : t.told.length + 1 ≤ maxLen := by have := HT.out; have := HMX.out; unfold maxLen; omega
          have hbn : (t.told.length + 1) * 8 ≤ 140737488355328 := by have := HT.out; have := HMX.out; omega
          have HLN := Aside0.mk hln
          have HBN := Aside0.mk hbn
          have HI := Aside0.mk hi0
          have HZ0 := Aside0.mk hz0
          have HZ1 := Aside0.mk hz1
          have HZ2 := Aside0.mk hz2
          clear hln hbn hi0 hz0 hz1 hz2
          refine start_ (n := 12) (S := fun w' => w'.cell? ⟨b, 2, none⟩ = some (.slice A1 t.told.length q1)) (ds := [11]) #[false, false, false, false, false, false, false, false, false, false, false, false] (by kernel_rfl) rfl rfl (z2) (fun hHeld => ?_)
          refine pure_ (i := 0) (N := some 65) (v := ?_) (a' := ?_) #[true, false, false, false, false, false, false, false, false, false, false, false] rfl rfl (by kernel_rfl) (fun _ _ _ h => h) (Or.inl ⟨by rfl, ?_⟩) ?_ ?_
          rotate_left
          · intro w'
            go_simp
            with_reducible rfl
          rotate_left
          · simp only [Act.put, List.setIfInBounds_toArray, List.set_cons_zero, List.set_cons_succ, i64_w, i32_w]
            rfl
          refine pure_ (i := 1) (N := some 66) (v := ?_) (a' := ?_) #[true, true, false, false, false, false, false, false, false, false, false, false] rfl rfl (by kernel_rfl) (fun _ _ _ h => h) (Or.inl ⟨by rfl, ?_⟩) ?_ ?_
          rotate_left
          · intro w'
            go_simp
            with_reducible rfl
          rotate_left
          · simp only [Act.put, List.setIfInBounds_toArray, List.set_cons_zero, List.set_cons_succ, i64_w, i32_w]
            rfl
          refine pure_ (i := 2) (N := some 67) (v := ?_) (a' := ?_) #[true, true, true, false, false, false, false, false, false, false, false, false] rfl rfl (by kernel_rfl) (fun _ _ _ h => h) (Or.inl ⟨by rfl, ?_⟩) ?_ ?_
          rotate_left
          · intro w'
            go_simp
            with_reducible rfl
          rotate_left
          · simp only [Act.put, List.setIfInBounds_toArray, List.set_cons_zero, List.set_cons_succ, i64_w, i32_w]
            rfl
          refine pure_ (i := 3) (N := some 68) (v := ?_) (a' := ?_) #[true, true, true, true, false, false, false, false, false, false, false, false] rfl rfl (by kernel_rfl) (fun _ _ _ h => h) (Or.inl ⟨by rfl, ?_⟩) ?_ ?_
          rotate_left
          · intro w'
            go_simp
            with_reducible rfl
          rotate_left
          · simp only [Act.put, List.setIfInBounds_toArray, List.set_cons_zero, List.set_cons_succ, i64_w, i32_w]
            rfl
          refine pure_ (i := 5) (N := some 70) (v := ?_) (a' := ?_) #[true, true, true, true, false, true, false, false, false, false, false, false] rfl rfl (by kernel_rfl) (fun _ _ _ h => h) (Or.inl ⟨by rfl, ?_⟩) ?_ ?_
          rotate_left
          · intro w'
            go_simp
            with_reducible rfl
          rotate_left
          · simp only [Act.put, List.setIfInBounds_toArray, List.set_cons_zero, List.set_cons_succ, i64_w, i32_w]
            rfl
          refine take_ (i := 4) (N := some 69) (v := ?_) (a' := ?_) #[true, true, true, true, true, true, false, false, false, false, false, false] rfl rfl (by kernel_rfl) (fun _ _ _ h => h) (Or.inl ⟨by rfl, ?_⟩) hHeld ?_ ?_
          rotate_left
          · intro w' s0
            go_simp
            with_reducible rfl
          rotate_left
          · simp only [Act.put, List.setIfInBounds_toArray, List.set_cons_zero, List.set_cons_succ, i64_w, i32_w]
            rfl
          refine one_ (i := 6) (N := some 71) #[true, true, true, true, true, true, true, false, false, false, false, false] rfl rfl (by kernel_rfl) (by decide) (fun K hK => ?_)
          refine goes_ Try.func28 (by kernel_rfl) rfl #[.pointer (some ⟨e, 0, none⟩)] (by rfl) rfl rfl (by simp only [List.map_toArray, List.map_cons, List.map_nil]; rfl) ?_
          with_reducible refine (envNow_calls (blk_drew EN4.out)).mono ?_
          rintro e_ w3 ⟨rfl, rfl⟩
          refine ⟨_, rfl, ?_⟩
          refine hK.out _ _ (z2) (fun hHeld => ?_)
          clear hK K
          refine norm_ (a' := ?_) ?_ ?_
          rotate_left
          · show Act.put _ (some 71) _ = _
            simp only [Act.put, List.setIfInBounds_toArray, List.set_cons_zero, List.set_cons_succ, i64_w, i32_w]
            rfl
          refine one_ (i := 7) (N := some 72) #[true, true, true, true, true, true, true, true, false, false, false, false] rfl rfl (by kernel_rfl) (by decide) (fun K hK => ?_)
          refine value_ (w1 := ?_) (v := ?_) (by rfl) rfl ?_ ?_
          rotate_left 2
          · go_simp
            constructor
            · rfl
            · rfl
          refine hK.out _ _ ((by first | exact pw_cell_below (below_drew (below_alloc (Below.refl _ _) _)) z2 | exact pw_cell_below (below_alloc (Below.refl _ _) _) z2)) (fun hHeld => ?_)
          clear hK K
          refine norm_ (a' := ?_) ?_ ?_
          rotate_left
          · show Act.put _ (some 72) _ = _
            simp only [Act.put, List.setIfInBounds_toArray, List.set_cons_zero, List.set_cons_succ, i64_w, i32_w]
            rfl
          refine one_ (i := 8) (N := some 73) #[true, true, true, true, true, true, true, true, true, false, false, false] rfl rfl (by kernel_rfl) (by decide) (fun K hK => ?_)
          refine step_append_lies _ (by rfl) (.tmp 69) (.tmp 72) 26 (by rfl) 0 48 i48 _ 1 8 Try.underlying26 HI.out HZ0.out HZ1.out HZ2.out rfl (by omega) (.slice A1 t.told.length q1) t.told.length (encs (Value.int .u64) t.told) (by rfl) (by first | exact (hown.out.alloc _).drew | exact World.ownsRow.alloc (w := wc) hown.out _) ⟨wc.heap.size, 0, none⟩ 1 1 [.int .u64 cl] (by rfl) (by rfl) (World.news_of_block (cs := #[.int .u64 cl]) (t := 48) (fr := (0, 0)) (heap_alloc_new wc _)) (by simp [Value.oneCell']) (by omega) HLN.out HBN.out (Nat.zero_le _) (wc.heap.size + 1) (by simp) ?_
          intro gg cap w2 hown2 hgrow hat hlt2
          obtain ⟨BK2, g', hX, hO, hAC, hoth⟩ := tell_end HA.out O4T.out HRW.out BK4.out (tell_R hown2) (tell_grown (W := wc) hgrow) (hat.elim (fun h => .inl h.symm) (fun h => .inr ⟨gg, rfl, by omega⟩)) hsz HG.out
          obtain ⟨z2a, z2f⟩ := blkc BK2 2 rfl
          refine hK.out _ _ (z2a) (fun hHeld => ?_)
          clear hK K
          refine norm_ (a' := ?_) ?_ ?_
          rotate_left
          · show Act.put _ (some 73) _ = _
            simp only [Act.put, List.setIfInBounds_toArray, List.set_cons_zero, List.set_cons_succ, i64_w, i32_w]
            rfl
          refine pure_ (i := 9) (N := some 74) (v := ?_) (a' := ?_) #[true, true, true, true, true, true, true, true, true, true, false, false] rfl rfl (by kernel_rfl) (fun _ _ _ h => h) (Or.inl ⟨by rfl, ?_⟩) ?_ ?_
          rotate_left
          · intro w'
            go_simp
            with_reducible rfl
          rotate_left
          · simp only [Act.put, List.setIfInBounds_toArray, List.set_cons_zero, List.set_cons_succ, i64_w, i32_w]
            rfl
          refine pure_ (i := 10) (N := some 75) (v := ?_) (a' := ?_) #[true, true, true, true, true, true, true, true, true, true, true, false] rfl rfl (by kernel_rfl) (fun _ _ _ h => h) (Or.inl ⟨by rfl, ?_⟩) ?_ ?_
          rotate_left
          · intro w'
            go_simp
            with_reducible rfl
          rotate_left
          · simp only [Act.put, List.setIfInBounds_toArray, List.set_cons_zero, List.set_cons_succ, i64_w, i32_w]
            rfl
          refine last_ (i := 11) (N := none) #[true, true, true, true, true, true, true, true, true, true, true, true] rfl rfl (by kernel_rfl) (by decide) (fun K hK => ?_)
          refine skip_ (w1 := ?_) (by rfl) rfl ?_ ?_
          rotate_left
          · go_simp
            rfl
          refine hK.out _ _ ?_
          clear hK K
          refine done_ (by kernel_rfl) ?_
          go_wp2
          go_meet
          case rel =>
            refine ⟨.slice none 0 0, g', ⟨hoth _ _ _ R4.out (by decide) (by omega)⟩, ⟨?_⟩, ⟨?_⟩, ⟨hX⟩, ⟨hO⟩, ⟨?_⟩, ⟨?_⟩⟩
            · rw [wait_no (by rw [K.out]; decide)]; exact hoth _ _ _ Y4.out (by decide) neb6
            · rw [wakes_no (by rw [K.out]; decide)]; exact Kd.R_nil _ _ _ _ _
            · rw [ownT_go HK.out, tell_now K.out]; exact hAC
            · rw [drew_no (by rw [K.out]; decide)]
              exact hoth _ _ _ EN4.out (by decide) (Ne.symm nebe)
        by_cases k5 : (actF t).1 = 5
        · have e2 : ((actF t).1 == 2) = false := by simp [k5]
          have e3 : ((actF t).1 == 3) = false := by simp [k5]
          have e4 : ((actF t).1 == 4) = false := by simp [k5]
          have e5 : ((actF t).1 == 5) = true := by simp [k5]
          have K := Aside0.mk k5
          clear k2 k3 k4 k5 hfb
          go_upto_region 14 with (fail)
          obtain ⟨z2, _⟩ := blkc BK4.out 2 rfl
          have HRW := Aside0.mk (HA.out.told.move rfl O4.out (Ext.refl _ _) (by simp)).1
          have O4T := Aside0.mk (O4.out.mono (T' := TA k i) (fun _ h => .inr (.inl h)))
          have hsz : w.heap.size < wc.heap.size := blk_lt R4.out
          obtain ⟨i48, hi0, hz0, hz1, hz2⟩ := info_parts info48
          have hln : t.told.length + 1 ≤ maxLen := by have := HT.out; have := HMX.out; unfold maxLen; omega
          have hbn : (t.told.length + 1) * 8 ≤ 140737488355328 := by have := HT.out; have := HMX.out; omega
          have HLN := Aside0.mk hln
          have HBN := Aside0.mk hbn
          have HI := Aside0.mk hi0
          have HZ0 := Aside0.mk hz0
          have HZ1 := Aside0.mk hz1
          have HZ2 := Aside0.mk hz2
          have HDT := Aside0.mk (hD.move O4.out (Ext.refl _ _) (by simp))
          clear hln hbn hi0 hz0 hz1 hz2
          refine start_ (n := 12) (S := fun w' => w'.cell? ⟨b, 2, none⟩ = some (.slice A1 t.told.length q1)) (ds := [11]) #[false, false, false, false, false, false, false, false, false, false, false, false] (by kernel_rfl) rfl rfl (z2) (fun hHeld => ?_)
          refine pure_ (i := 0) (N := some 78) (v := ?_) (a' := ?_) #[true, false, false, false, false, false, false, false, false, false, false, false] rfl rfl (by kernel_rfl) (fun _ _ _ h => h) (Or.inl ⟨by rfl, ?_⟩) ?_ ?_
          rotate_left
          · intro w'
            go_simp
            with_reducible rfl
          rotate_left
          · simp only [Act.put, List.setIfInBounds_toArray, List.set_cons_zero, List.set_cons_succ, i64_w, i32_w]
            rfl
          refine pure_ (i := 1) (N := some 79) (v := ?_) (a' := ?_) #[true, true, false, false, false, false, false, false, false, false, false, false] rfl rfl (by kernel_rfl) (fun _ _ _ h => h) (Or.inl ⟨by rfl, ?_⟩) ?_ ?_
          rotate_left
          · intro w'
            go_simp
            with_reducible rfl
          rotate_left
          · simp only [Act.put, List.setIfInBounds_toArray, List.set_cons_zero, List.set_cons_succ, i64_w, i32_w]
            rfl
          refine pure_ (i := 2) (N := some 80) (v := ?_) (a' := ?_) #[true, true, true, false, false, false, false, false, false, false, false, false] rfl rfl (by kernel_rfl) (fun _ _ _ h => h) (Or.inl ⟨by rfl, ?_⟩) ?_ ?_
          rotate_left
          · intro w'
            go_simp
            with_reducible rfl
          rotate_left
          · simp only [Act.put, List.setIfInBounds_toArray, List.set_cons_zero, List.set_cons_succ, i64_w, i32_w]
            rfl
          refine pure_ (i := 3) (N := some 81) (v := ?_) (a' := ?_) #[true, true, true, true, false, false, false, false, false, false, false, false] rfl rfl (by kernel_rfl) (fun _ _ _ h => h) (Or.inl ⟨by rfl, ?_⟩) ?_ ?_
          rotate_left
          · intro w'
            go_simp
            with_reducible rfl
          rotate_left
          · simp only [Act.put, List.setIfInBounds_toArray, List.set_cons_zero, List.set_cons_succ, i64_w, i32_w]
            rfl
          refine pure_ (i := 5) (N := some 83) (v := ?_) (a' := ?_) #[true, true, true, true, false, true, false, false, false, false, false, false] rfl rfl (by kernel_rfl) (fun _ _ _ h => h) (Or.inl ⟨by rfl, ?_⟩) ?_ ?_
          rotate_left
          · intro w'
            go_simp
            with_reducible rfl
          rotate_left
          · simp only [Act.put, List.setIfInBounds_toArray, List.set_cons_zero, List.set_cons_succ, i64_w, i32_w]
            rfl
          refine take_ (i := 4) (N := some 82) (v := ?_) (a' := ?_) #[true, true, true, true, true, true, false, false, false, false, false, false] rfl rfl (by kernel_rfl) (fun _ _ _ h => h) (Or.inl ⟨by rfl, ?_⟩) hHeld ?_ ?_
          rotate_left
          · intro w' s0
            go_simp
            with_reducible rfl
          rotate_left
          · simp only [Act.put, List.setIfInBounds_toArray, List.set_cons_zero, List.set_cons_succ, i64_w, i32_w]
            rfl
          refine one_ (i := 6) (N := some 84) #[true, true, true, true, true, true, true, false, false, false, false, false] rfl rfl (by kernel_rfl) (by decide) (fun K hK => ?_)
          refine goes_ Try.func29 (by kernel_rfl) rfl #[.pointer (some ⟨e, 0, none⟩)] (by rfl) rfl rfl (by simp only [List.map_toArray, List.map_cons, List.map_nil]; rfl) ?_
          with_reducible refine (draw_calls (w := wc.drew) (k := k) (g := g) (blk_drew EN4.out) (HDT.out.move ((Only.refl (fun _ => False) g wc).drew) (Ext.refl _ _) (fun h => h)) hte HDR.out hdl).mono ?_
          rintro e_ w3 ⟨rfl, hO3, hE3⟩
          have EN5 := Aside0.mk hE3
          have BK5 := Aside0.mk (hO3.blk (blk_drew BK4.out) (by rw [HA.out.tag]; simp))
          have R5 := Aside0.mk (hO3.blk (blk_drew R4.out) (by rw [HG.out _ (Nat.le_refl _)]; simp))
          have Y5 := Aside0.mk (hO3.blk (blk_drew Y4.out) (by rw [HG.out _ (Nat.le_of_lt h6)]; simp))
          have O5T := Aside0.mk (O4T.out.drew.trans (hO3.mono (T' := TA k i) (fun _ h => .inl h)) (Ext.refl _ _))
          have O5R := (O4.out.mono (T' := fun t => t = .act k i ∨ t = .env k) (fun _ h => .inl h)).drew.trans (hO3.mono (T' := fun t => t = .act k i ∨ t = .env k) (fun _ h => .inr h)) (Ext.refl _ _)
          have HRW5 := Aside0.mk (HA.out.told.move rfl O5R (Ext.refl _ _) (by simp)).1
          have hown5 := Aside0.mk (tell_own HRW5.out)
          have z3 := (blkc BK5.out 2 rfl).1
          have hsz5 : w.heap.size < w3.heap.size := blk_lt R5.out
          clear hO3 hE3 O5R
          refine ⟨_, rfl, ?_⟩
          refine hK.out _ _ (z3) (fun hHeld => ?_)
          clear hK K
          refine norm_ (a' := ?_) ?_ ?_
          rotate_left
          · show Act.put _ (some 84) _ = _
            simp only [Act.put, List.setIfInBounds_toArray, List.set_cons_zero, List.set_cons_succ, i64_w, i32_w]
            rfl
          refine one_ (i := 7) (N := some 85) #[true, true, true, true, true, true, true, true, false, false, false, false] rfl rfl (by kernel_rfl) (by decide) (fun K hK => ?_)
          refine value_ (w1 := ?_) (v := ?_) (by rfl) rfl ?_ ?_
          rotate_left 2
          · go_simp
            constructor
            · rfl
            · rfl
          refine hK.out _ _ ((by first | exact pw_cell_below (below_drew (below_alloc (Below.refl _ _) _)) z3 | exact pw_cell_below (below_alloc (Below.refl _ _) _) z3)) (fun hHeld => ?_)
          clear hK K
          refine norm_ (a' := ?_) ?_ ?_
          rotate_left
          · show Act.put _ (some 85) _ = _
            simp only [Act.put, List.setIfInBounds_toArray, List.set_cons_zero, List.set_cons_succ, i64_w, i32_w]
            rfl
          refine one_ (i := 8) (N := some 86) #[true, true, true, true, true, true, true, true, true, false, false, false] rfl rfl (by kernel_rfl) (by decide) (fun K hK => ?_)
          refine step_append_lies _ (by rfl) (.tmp 82) (.tmp 85) 26 (by rfl) 0 48 i48 _ 1 8 Try.underlying26 HI.out HZ0.out HZ1.out HZ2.out rfl (by omega) (.slice A1 t.told.length q1) t.told.length (encs (Value.int .u64) t.told) (by rfl) (by first | exact (hown5.out.alloc _).drew | exact World.ownsRow.alloc (w := w3) hown5.out _) ⟨w3.heap.size, 0, none⟩ 1 1 [.int .u64 (drawOf ds dr)] (by rfl) (by rfl) (World.news_of_block (cs := #[.int .u64 (drawOf ds dr)]) (t := 48) (fr := (0, 0)) (heap_alloc_new w3 _)) (by simp [Value.oneCell']) (by omega) HLN.out HBN.out (Nat.zero_le _) (w3.heap.size + 1) (by simp) ?_
          intro gg cap w2 hown2 hgrow hat hlt2
          obtain ⟨BK2, g', hX, hO, hAC, hoth⟩ := tell_end HA.out O5T.out HRW5.out BK5.out (tell_R hown2) (tell_grown' (W := w3) hgrow) (hat.elim (fun h => .inl h.symm) (fun h => .inr ⟨gg, rfl, by omega⟩)) hsz5 HG.out
          obtain ⟨z2a, z2f⟩ := blkc BK2 2 rfl
          refine hK.out _ _ (z2a) (fun hHeld => ?_)
          clear hK K
          refine norm_ (a' := ?_) ?_ ?_
          rotate_left
          · show Act.put _ (some 86) _ = _
            simp only [Act.put, List.setIfInBounds_toArray, List.set_cons_zero, List.set_cons_succ, i64_w, i32_w]
            rfl
          refine pure_ (i := 9) (N := some 87) (v := ?_) (a' := ?_) #[true, true, true, true, true, true, true, true, true, true, false, false] rfl rfl (by kernel_rfl) (fun _ _ _ h => h) (Or.inl ⟨by rfl, ?_⟩) ?_ ?_
          rotate_left
          · intro w'
            go_simp
            with_reducible rfl
          rotate_left
          · simp only [Act.put, List.setIfInBounds_toArray, List.set_cons_zero, List.set_cons_succ, i64_w, i32_w]
            rfl
          refine pure_ (i := 10) (N := some 88) (v := ?_) (a' := ?_) #[true, true, true, true, true, true, true, true, true, true, true, false] rfl rfl (by kernel_rfl) (fun _ _ _ h => h) (Or.inl ⟨by rfl, ?_⟩) ?_ ?_
          rotate_left
          · intro w'
            go_simp
            with_reducible rfl
          rotate_left
          · simp only [Act.put, List.setIfInBounds_toArray, List.set_cons_zero, List.set_cons_succ, i64_w, i32_w]
            rfl
          refine last_ (i := 11) (N := none) #[true, true, true, true, true, true, true, true, true, true, true, true] rfl rfl (by kernel_rfl) (by decide) (fun K hK => ?_)
          refine skip_ (w1 := ?_) (by rfl) rfl ?_ ?_
          rotate_left
          · go_simp
            rfl
          refine hK.out _ _ ?_
          clear hK K
          refine done_ (by kernel_rfl) ?_
          go_wp2
          go_meet
          case rel =>
            refine ⟨.slice none 0 0, g', ⟨hoth _ _ _ R5.out (by decide) (by omega)⟩, ⟨?_⟩, ⟨?_⟩, ⟨hX⟩, ⟨hO⟩, ⟨?_⟩, ⟨?_⟩⟩
            · rw [wait_no (by rw [K.out]; decide)]; exact hoth _ _ _ Y5.out (by decide) neb6
            · rw [wakes_no (by rw [K.out]; decide)]; exact Kd.R_nil _ _ _ _ _
            · rw [ownT_go HK.out, tell_draw K.out]; exact hAC
            · rw [drew_yes HK.out K.out]
              exact hoth _ _ _ EN5.out (by decide) (Ne.symm nebe)
        · have e2 : ((actF t).1 == 2) = false := by simp [k2]
          have e3 : ((actF t).1 == 3) = false := by simp [k3]
          have e4 : ((actF t).1 == 4) = false := by simp [k4]
          have e5 : ((actF t).1 == 5) = false := by simp [k5]
          have K2 := Aside0.mk k2
          have K3 := Aside0.mk k3
          have K4 := Aside0.mk k4
          have K5 := Aside0.mk k5
          clear k2 k3 k4 k5 hfb
          go_wp2
          go_meet
          case rel =>
            refine ⟨.slice none 0 0, g, R4, ⟨?_⟩, ⟨?_⟩, ⟨Ext.refl _ _, HG.out _ (Nat.le_refl _), fun j hj => .inl (HG.out j hj)⟩, ⟨O4.out.mono (fun _ h => .inr (.inl h))⟩, ⟨?_⟩, ⟨?_⟩⟩
            · rw [wait_no K2.out]; exact Y4.out
            · rw [wakes_no K3.out]; exact Kd.R_nil _ _ _ _ _
            · rw [ownT_go HK.out, tell_no K4.out K5.out]
              exact HA.out.pos1 O4.out (Ext.refl _ _) (by simp) BK4.out (by rw [List.append_nil]; exact HA.out.told.move rfl O4.out (Ext.refl _ _) (by simp))
            · rw [drew_no K5.out]
              exact EN4.out
      case rest =>
        obtain ⟨vw, g', R5, Y5, RW, HX, HO, HAC, HEN⟩ := hcut
        obtain ⟨y0, _⟩ := blkc Y5.out 0 rfl
        obtain ⟨y1, _⟩ := blkc Y5.out 1 rfl
        obtain ⟨y2, _⟩ := blkc Y5.out 2 rfl
        obtain ⟨r0, rf0⟩ := blkc R5.out 0 rfl
        obtain ⟨r1, rf1⟩ := blkc R5.out 1 rfl
        obtain ⟨r2, rf2⟩ := blkc R5.out 2 rfl
        obtain ⟨Aw, cw, rfl⟩ := Kd.R_slice RW.out
        have hbe : b ≠ w.heap.size := by omega
        have hee : e ≠ w.heap.size := by have := blk_lt hE; omega
        have h66 : b6 ≠ w.heap.size := by omega
        have U0 := blk_set R5.out 0 (.bool (doneF t))
        have U1 := blk_set U0 1 (.int .i64 (waitF t))
        have HR' := Aside0.mk (Kd.R_set (Kd.R_set (Kd.R_set RW.out R5.out (by decide) 0 (.bool (doneF t))) U0 (by decide) 1 (.int .i64 (waitF t))) U1 (by decide) 2 (.slice Aw (wakesF t).length cw))
        have HO' := Aside0.mk (((HO.out.setCell (p := ⟨w.heap.size, 0, none⟩) (.inr (Nat.le_refl _)) (.bool (doneF t))).setCell (p := ⟨w.heap.size, 1, none⟩) (.inr (Nat.le_refl _)) (.int .i64 (waitF t))).setCell (p := ⟨w.heap.size, 2, none⟩) (.inr (Nat.le_refl _)) (.slice Aw (wakesF t).length cw))
        have HQ := (((Only.refl (fun t => t = Tag.other) g' wc).setCell (p := ⟨w.heap.size, 0, none⟩) (.inl HX.out.2.1) (.bool (doneF t))).setCell (p := ⟨w.heap.size, 1, none⟩) (.inl HX.out.2.1) (.int .i64 (waitF t))).setCell (p := ⟨w.heap.size, 2, none⟩) (.inl HX.out.2.1) (.slice Aw (wakesF t).length cw)
        have HAC' := Aside0.mk (HAC.out.move HQ (Ext.refl _ _) (by simp) (by simp) (by simp))
        have HEN' := Aside0.mk (blk_far (blk_far (blk_far HEN.out (p := ⟨w.heap.size, 0, none⟩) hee (.bool (doneF t))) (p := ⟨w.heap.size, 1, none⟩) hee (.int .i64 (waitF t))) (p := ⟨w.heap.size, 2, none⟩) hee (.slice Aw (wakesF t).length cw))
        clear U0 U1 HQ
        go_wp2
        exact bodyPost_ret (v := .agg #[.bool (doneF t), .int .i64 (waitF t), .slice Aw (wakesF t).length cw]) (by simp [results, Try.results26, go_sem, r0, r1, r2]) rfl ⟨_, g', rfl, HR'.out, ⟨HX.out.1, HX.out.2.2⟩, HO'.out, HAC'.out, HEN'.out⟩
end Go.Proofs.Ytompgphlinjglaa.P
