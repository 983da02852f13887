/- Contracts proved by hand: the reference's Check of a version (a state with Log 0, Next 2147483648, Seq 0). -/
import Derived.Test.YtdibolblgchpdaaRH8
import Derived.Test.YtdibolblgchpdaaRPL0c
import Derived.Test.YtdibolblgchpdaaRH4
import Derived.Deep.QuietTactic
import Derived.BigQuiet
namespace Go.Proofs.Ytdibolblgchpdaa.P
open Go.RowKit Go.Proofs.YtdibolblgchpdaaW.PrintWords Go.Proofs.YtdibolblgchpdaaW.PrintLast Go.Proofs.YtdibolblgchpdaaW.PrintMore
attribute [local go_sem] Oper.semAt_some
attribute [local go_sem high] leqS gtrS geqS
set_option linter.unusedVariables false
set_option linter.unusedSimpArgs false
def nums (l : List S44) : List Int := l.map fun t => t.f0
def fresh : List S44 → List Int → Bool
 | [], _ => true
 | t :: l, seen => fileR t && !decide (t.f0 ∈ seen) && fresh l (seen ++ [t.f0])
def allOk : List (List S44) → Nat → List Int → Bool
 | [], _, _ => true
 | l :: ls, i, seen => ordF i l && fresh l seen && decide (seen.length + l.length ≤ 1024) && allOk ls (i + 1) (seen ++ nums l)
def ordP (lv : Nat) : Option S44 → List S44 → Bool
 | none, l => ordF lv l
 | some p, l => ordF lv (p :: l)
theorem ordP_cons (lv : Nat) (p : Option S44) (t : S44) (l : List S44) : ordP lv p (t :: l) = ((match p with | none => true | some p => adjR lv p t) && ordP lv (some t) l) := by
 cases p with
 | none => simp [ordP]
 | some p => rfl
theorem file_ref (t : S44) : atriumref11_file.f t.f0 t.f1 t.f2 t.f3 t.f4 = some (fileR t) := by
 rw [← fileR_val]
 unfold atriumref11_file.f manifest_fileRight.f manifest_keyRight.f
 repeat' split
 all_goals first | (simp_all; done) | (simp_all; omega)
theorem fileR_lt (t : S44) (h : fileR t = true) : t.f0 < 2147483648 := by
 have h2 := fileR_val t
 rw [h] at h2
 unfold manifest_fileRight.f at h2
 split at h2
 ·split at h2
  ·omega
  ·simp at h2
 ·simp at h2
theorem rd_nat (l : List Int) (j : Nat) (h : j < l.length) : rd l (j : Int) = l[j] := by
 simp only [rd, Int.toNat_natCast, List.getD_eq_getElem?_getD, List.getElem?_eq_getElem h]
 rfl
theorem wr1 (i : Nat) (h : i ≤ 4611686018427387904) : wrap64 ((i : Int) + 1) = ((i + 1 : Nat) : Int) := by unfold wrap64; omega
def prevOf (L : List S44) (i : Nat) : Option S44 := if i = 0 then none else some (rd_T44 L ((i - 1 : Nat) : Int))
def adjP (lv : Nat) (p : Option S44) (t : S44) : Bool := match p with | none => true | some p => adjR lv p t
theorem prevOf_succ (L : List S44) (i : Nat) (h : i < L.length) : prevOf L (i + 1) = some L[i] := by
 unfold prevOf
 rw [if_neg (by omega), Nat.add_sub_cancel, get44 L i h]
def inR (ls : List (List S44)) (lv : Nat) (L : List S44) (i : Nat) (seen : List Int) : Bool := fresh (L.drop i) seen && ordP lv (prevOf L i) (L.drop i) && decide (seen.length + (L.drop i).length ≤ 1024) && allOk (ls.drop (lv + 1)) (lv + 1) (seen ++ nums (L.drop i))
theorem inR_end (ls : List (List S44)) (lv : Nat) (L : List S44) (seen : List Int) (hs : seen.length ≤ 1024) : inR ls lv L L.length seen = allOk (ls.drop (lv + 1)) (lv + 1) seen := by
 unfold inR
 rw [List.drop_length]
 have h2 : ordP lv (prevOf L L.length) [] = true := by
  cases prevOf L L.length <;> rfl
 rw [h2, show fresh [] seen = true from rfl, show nums [] = [] from rfl, List.append_nil, decide_eq_true (by simpa using hs)]
 rfl
theorem inR_step (ls : List (List S44)) (lv : Nat) (L : List S44) (i : Nat) (seen : List Int) (hi : i < L.length) : inR ls lv L i seen = (fileR L[i] && decide (seen.length + 1 ≤ 1024) && !decide (L[i].f0 ∈ seen) && adjP lv (prevOf L i) L[i] && inR ls lv L (i + 1) (seen ++ [L[i].f0])) := by
 unfold inR
 symm
 rw [List.drop_eq_getElem_cons hi, ordP_cons, prevOf_succ L i hi]
 have hn : nums (L[i] :: L.drop (i + 1)) = [L[i].f0] ++ nums (L.drop (i + 1)) := rfl
 rw [hn, ← List.append_assoc]
 have hfr : fresh (L[i] :: L.drop (i + 1)) seen = (fileR L[i] && !decide (L[i].f0 ∈ seen) && fresh (L.drop (i + 1)) (seen ++ [L[i].f0])) := rfl
 have hadj : adjP lv (prevOf L i) L[i] = (match prevOf L i with | none => true | some p => adjR lv p L[i]) := rfl
 rw [hfr, ← hadj]
 have hlen : (seen ++ [L[i].f0]).length + (L.drop (i + 1)).length = seen.length + (L[i] :: L.drop (i + 1)).length := by simp; omega
 rw [hlen]
 by_cases hc : seen.length + (L[i] :: L.drop (i + 1)).length ≤ 1024
 ·have hc1 : seen.length + 1 ≤ 1024 := by rw [List.length_cons] at hc; omega
  rw [decide_eq_true hc, decide_eq_true hc1]
  generalize fileR L[i] = b1, (decide (L[i].f0 ∈ seen)) = b2, adjP lv (prevOf L i) L[i] = b3, fresh (L.drop (i + 1)) (seen ++ [L[i].f0]) = b4, ordP lv (some L[i]) (L.drop (i + 1)) = b5, allOk (ls.drop (lv + 1)) (lv + 1) (seen ++ [L[i].f0] ++ nums (L.drop (i + 1))) = b6
  cases b1 <;> cases b2 <;> cases b3 <;> cases b4 <;> cases b5 <;> cases b6 <;> rfl
 ·rw [decide_eq_false hc]
  simp
theorem allOk_lv (ls : List (List S44)) (lv : Nat) (seen : List Int) (h : lv < ls.length) : allOk (ls.drop lv) lv seen = inR ls lv ls[lv] 0 seen := by
 rw [List.drop_eq_getElem_cons h]
 have e0 : allOk (ls[lv] :: ls.drop (lv + 1)) lv seen = (ordF lv ls[lv] && fresh ls[lv] seen && decide (seen.length + ls[lv].length ≤ 1024) && allOk (ls.drop (lv + 1)) (lv + 1) (seen ++ nums ls[lv])) := rfl
 rw [e0, Bool.and_comm (ordF lv ls[lv])]
 rfl
def okF (ls : List (List S44)) : Bool := !wrong0 ls && allOk ls 0 []
def ans (b : Bool) : Int := if b = true then 0 else 110
theorem info3h : (Try.prog.info? 3).map (fun i => (i.zero, i.size, i.bytes)) = some (some (.int .i64 0), 1, 8) := by kernel_rfl
def oS (A0 : Option Addr) (n c0 : Nat) : Obj := .cells #[.slice A0 n c0, .int .i64 0, .int .i64 2147483648, .int .u64 0] 74 (0, 0)
set_option maxHeartbeats 16000000 in
set_option maxRecDepth 100000 in
theorem rcheck_core (A0 : Option Addr) (c0 : Nat) (ls : List (List S44)) (w : World) (hr0 : Kd.C (Kd.slice 44 k44) w A0 ls.length ls) (hc0 : ls.length ≤ c0) (hLl : ∀ n : Int, (rd_L3 ls n).length ≤ 2513169434916) :
  Calls Try.prog 39 #[.agg #[.slice A0 ls.length c0, .int .i64 0, .int .i64 2147483648, .int .u64 0]] w fun e w' => e = .returned (.int .i64 (ans (okF ls))) ∧ Below w.heap.size w w' := by
 have HC := Aside0.mk hr0
 have hlen : ls.length ≤ 9223372036854775807 := hr0.2.1
 have HLL := Aside0.mk hLl
 have bS := blk_new w (oS A0 ls.length c0)
 have BS := Aside0.mk bS
 have B0 := Aside0.mk (below_alloc (Below.refl w.heap.size w) (oS A0 ls.length c0))
 have s2 : (w.alloc (oS A0 ls.length c0)).cell? ⟨w.heap.size, 0, none⟩ = some (.slice A0 ls.length c0) := (blk_cell bS 0).trans rfl
 clear hr0 hLl bS
 have HW := Aside0.mk (wrong_cases ls)
 have hmain : wrong0 ls = false → ls.length ≤ 7 → Aside0 (ans (allOk (ls.drop 0) 0 []) = ans (okF ls)) := fun h _ => ⟨by unfold okF; rw [h]; rfl⟩
 have HMAIN := Aside0.mk hmain
 clear hmain
 go_enter Try.func39, Try.ntmps39
 go_upto_region 2 with (fail)
 go_cut [29] (fun v29 wc => v29 = .bool (wrong0 ls) ∧ wc = w.alloc (.cells #[.slice A0 ls.length c0, .int .i64 0, .int .i64 2147483648, .int .u64 0] 74))
 case first =>
  rcases HW.out with ⟨h1, h2⟩ | ⟨h1, h2⟩ | ⟨h1, h3, h4, h2⟩ | ⟨h1, h3, h4, h2⟩
  ·have H2 := Aside0.mk h2
   clear h2 HW
   have g1 : (ls.length : Int) > 7 := by omega
   go_wp2
   go_meet
   case rel => exact ⟨by rw [H2.out], rfl⟩
  ·have H2 := Aside0.mk h2
   clear h2 HW
   have hz : ls = [] := List.eq_nil_of_length_eq_zero h1
   have g1 : ¬ ((ls.length : Int) > 7) := by omega
   have g2 : ¬ ((ls.length : Int) > 0) := by omega
   clear h1 hz
   go_wp2
   go_meet
   case rel => exact ⟨by rw [H2.out], rfl⟩
  ·have H2 := Aside0.mk h2
   clear h2 HW
   obtain ⟨ad, A1, n1, ea, x0, hl1, hi1⟩ := at_L3 (Kd.C_below HC.out B0.out) ((ls.length - 1 : Nat) : Int) (Int.natCast_nonneg _) (by omega)
   subst ea
   rw [Int.toNat_natCast] at x0
   have x1 : (w.alloc (.cells #[.slice (some ad) ls.length c0, .int .i64 0, .int .i64 2147483648, .int .u64 0] 74)).cell? (ad.add (ls.length - 1)) = some (.slice A1 (rd_L3 ls ((ls.length - 1 : Nat) : Int)).length n1) := x0
   clear x0 hl1 hi1 s2
   rw [h4] at x1
   clear h4
   have g1 : ¬ ((ls.length : Int) > 7) := by omega
   have g2 : (ls.length : Int) > 0 := by omega
   have g3 : IntKind.i64.wrap ((ls.length : Int) - 1) = ((ls.length - 1 : Nat) : Int) := by rw [i64_w]; unfold wrap64; omega
   have g4 : wrap64 ((ls.length : Int) - 1) = ((ls.length - 1 : Nat) : Int) := by unfold wrap64; omega
   have g5 : ((ls.length - 1 : Nat) : Int) < (ls.length : Int) := by omega
   clear h3 h1
   go_wp2
   go_meet
   case rel => exact ⟨by rw [H2.out], rfl⟩
  ·have H2 := Aside0.mk h2
   clear h2 HW
   obtain ⟨ad, A1, n1, ea, x0, hl1, hi1⟩ := at_L3 (Kd.C_below HC.out B0.out) ((ls.length - 1 : Nat) : Int) (Int.natCast_nonneg _) (by omega)
   subst ea
   rw [Int.toNat_natCast] at x0
   have x1 : (w.alloc (.cells #[.slice (some ad) ls.length c0, .int .i64 0, .int .i64 2147483648, .int .u64 0] 74)).cell? (ad.add (ls.length - 1)) = some (.slice A1 (rd_L3 ls ((ls.length - 1 : Nat) : Int)).length n1) := x0
   clear x0 hl1 hi1 s2
   have z4 : (((rd_L3 ls ((ls.length - 1 : Nat) : Int)).length : Int) == 0) = false := beq_eq_false_iff_ne.mpr (by omega)
   have z5 : decide ((rd_L3 ls ((ls.length - 1 : Nat) : Int)).length = 0) = false := decide_eq_false h4
   have z6 : ((rd_L3 ls ((ls.length - 1 : Nat) : Int)).length = 0) = False := eq_false h4
   clear h4
   have g1 : ¬ ((ls.length : Int) > 7) := by omega
   have g2 : (ls.length : Int) > 0 := by omega
   have g3 : IntKind.i64.wrap ((ls.length : Int) - 1) = ((ls.length - 1 : Nat) : Int) := by rw [i64_w]; unfold wrap64; omega
   have g4 : wrap64 ((ls.length : Int) - 1) = ((ls.length - 1 : Nat) : Int) := by unfold wrap64; omega
   have g5 : ((ls.length - 1 : Nat) : Int) < (ls.length : Int) := by omega
   clear h3 h1
   go_wp2
   go_meet
   case rel => exact ⟨by rw [H2.out], rfl⟩
 case rest =>
  obtain ⟨rfl, rfl⟩ := hcut
  obtain ⟨wb, hwb⟩ : ∃ b, wrong0 ls = b := ⟨_, rfl⟩
  rw [hwb]
  cases wb with
  | true =>
   have e : okF ls = false := by unfold okF; rw [hwb]; rfl
   have HE := Aside0.mk e
   clear e hwb
   go_wp2
   go_ret
   exact ⟨by rw [HE.out]; rfl, B0.out⟩
  | false =>
   have h7 : ls.length ≤ 7 := by
    rcases HW.out with ⟨h1, h2⟩ | ⟨h1, h2⟩ | ⟨h1, h3, h4, h2⟩ | ⟨h1, h3, h4, h2⟩
    ·rw [h2] at hwb; cases hwb
    ·omega
    ·omega
    ·omega
   have HA0 := HMAIN.out hwb h7
   clear hwb HW HMAIN s2
   go_wp2
   go_loopg [4, 5] ls.length (fun kq v4 v5 w' => ∃ (lv : Nat) (seen : List Int) (u : Value), u = v4 ∧ v5 = .int .i64 lv ∧ lv ≤ ls.length ∧ seen.length ≤ 1024 ∧ Aside0 (kq = ls.length - lv) ∧ Aside0 (ans (allOk (ls.drop lv) lv seen) = ans (okF ls)) ∧ Aside0 (Kd.R (Kd.int .i64) 3 w' w.heap.size (fun _ => True) u seen) ∧ Aside0 (w'.heap[w.heap.size]? = some (.cells #[.slice A0 ls.length c0, .int .i64 0, .int .i64 2147483648, .int .u64 0] 74 (0, 0))) ∧ Aside0 (Below w.heap.size w w'))
   case atStart => exact ⟨0, [], _, rfl, rfl, Nat.zero_le _, Nat.zero_le _, ⟨rfl⟩, HA0, ⟨Kd.R_nil _ _ _ _ _⟩, BS, B0⟩
   case round =>
    clear BS B0 HA0
    obtain ⟨lv, seen, u, rfl, rfl, hlv, hs, HK, HA, HR, HS, HB⟩ := hrel
    by_cases hlt : lv < ls.length
    ·obtain ⟨k1, rfl⟩ : ∃ k1, gk = k1 + 1 := ⟨gk - 1, by have := HK.out; omega⟩
     have HK1 := Aside0.mk (show k1 = ls.length - (lv + 1) by have := HK.out; omega)
     obtain ⟨L, hL⟩ : ∃ L, rd_L3 ls (lv : Int) = L := ⟨_, rfl⟩
     have hLg : L = ls[lv] := by rw [← hL]; simp only [rd_L3, Int.toNat_natCast]; simp [hlt]
     have hLn : L.length ≤ 2513169434916 := by rw [← hL]; exact HLL.out _
     have HI := Aside0.mk (show ans (inR ls lv L 0 seen) = ans (okF ls) by rw [hLg, ← allOk_lv ls lv seen hlt]; exact HA.out)
     have HLE := Aside0.mk hL
     clear hLg hL HA HK
     go_wp2
     go_loopg [4, 6] L.length (fun kq v4 v6 w' => ∃ (i : Nat) (seen : List Int) (u : Value), u = v4 ∧ v6 = .int .i64 i ∧ i ≤ L.length ∧ seen.length ≤ 1024 ∧ Aside0 (kq = L.length - i) ∧ Aside0 (ans (inR ls lv L i seen) = ans (okF ls)) ∧ Aside0 (Kd.R (Kd.int .i64) 3 w' w.heap.size (fun _ => True) u seen) ∧ Aside0 (w'.heap[w.heap.size]? = some (.cells #[.slice A0 ls.length c0, .int .i64 0, .int .i64 2147483648, .int .u64 0] 74 (0, 0))) ∧ Aside0 (Below w.heap.size w w'))
     case atStart => exact ⟨0, seen, u, rfl, rfl, Nat.zero_le _, hs, ⟨rfl⟩, HI, HR, HS, HB⟩
     case round =>
      clear HI HR HS HB hs
      obtain ⟨i, seen, u, rfl, rfl, hi, hs, HKi, HA, HR, HS, HB⟩ := hrel
      obtain ⟨ad, A1, n1, ea, x0, hl1, hi1⟩ := at_L3 (Kd.C_below HC.out HB.out) (lv : Int) (Int.natCast_nonneg _) (by omega)
      subst ea
      rw [Int.toNat_natCast, HLE.out] at x0
      rw [HLE.out] at hi1
      by_cases hil : i < L.length
      ·obtain ⟨k2, rfl⟩ : ∃ k2, gk = k2 + 1 := ⟨gk - 1, by have := HKi.out; omega⟩
       have HK2 := Aside0.mk (show k2 = L.length - (i + 1) by have := HKi.out; omega)
       obtain ⟨ad2, ea2, y0, y1, y2, y3, y4⟩ := at_T44 hi1 (i : Int) (Int.natCast_nonneg _) (by omega)
       subst ea2
       rw [Int.toNat_natCast] at y0 y1 y2 y3 y4
       have hst := inR_step ls lv L i seen hil
       have htg := get44 L i hil
       obtain ⟨t, ht⟩ : ∃ t, rd_T44 L (i : Int) = t := ⟨_, rfl⟩
       rw [ht] at y0 y1 y2 y3 y4 htg
       rw [← htg] at hst
       have HST := Aside0.mk hst
       have HLT := Aside0.mk hlen
       obtain ⟨Au, cu, rfl⟩ := Kd.R_slice HR.out
       have HCU := Aside0.mk (Kd.R_reads' HR.out).2.2
       have hf0 : fileR t = true → t.f0 < 2147483648 := fileR_lt t
       have HF0 := Aside0.mk hf0
       clear ht htg hst hl1 hi1 HKi hf0
       have hmem : ∀ q, seen[q]? = some t.f0 → t.f0 ∈ seen := fun q h => List.mem_of_getElem? h
       have HMEM := Aside0.mk hmem
       clear hmem
       obtain ⟨sl, hsl⟩ : ∃ n, seen.length = n := ⟨_, rfl⟩
       rw [hsl] at hs HR HCU ⊢
       have HSL := Aside0.mk hsl
       clear hsl
       by_cases hf : fileR t = true
       ·have hlt0 := HF0.out hf
        have HFT := Aside0.mk hf
        clear hf
        have hge : ¬ (t.f0 ≥ 2147483648) := by omega
        clear hlt0
        have W1 : ∀ w1, Below (wr.alloc (.cells #[.int .i64 t.f0, .int .i64 t.f1, .int .i64 t.f2, .string t.f3, .string t.f4] 44)).heap.size (wr.alloc (.cells #[.int .i64 t.f0, .int .i64 t.f1, .int .i64 t.f2, .string t.f3, .string t.f4] 44)) w1 → Below wr.heap.size wr w1 := fun w1 h => (below_alloc (Below.refl _ _) _).trans (h.mono (below_alloc (Below.refl _ _) _).size)
        have HW1 := Aside0.mk W1
        clear W1
        by_cases hsn : sl + 1 ≤ 1024
        ·have hsn2 : ¬ ((sl : Int) ≥ 1024) := by omega
         go_wp2_with (go_at_call 56; refine (atriumref11_file.calls _ _ _ _ _ _ _ ((file_ref t).trans (congrArg some HFT.out))).mono ?_; rintro e w1 ⟨rfl, hb⟩; have hbw := HW1.out w1 hb; have hs1 := blk_below HS.out hbw; have HS1 := Aside0.mk hs1; have r2 : w1.cell? ⟨w.heap.size, 2, none⟩ = some (.int .i64 2147483648) := (blkc hs1 2 rfl).1; have ht1 := blk_below (blk_new wr (.cells #[.int .i64 t.f0, .int .i64 t.f1, .int .i64 t.f2, .string t.f3, .string t.f4] 44)) hb; have HT1 := Aside0.mk ht1; have t0 : w1.cell? ⟨wr.heap.size, 0, none⟩ = some (.int .i64 t.f0) := (blkc ht1 0 rfl).1; have HB1 := Aside0.mk (HB.out.trans (hbw.mono HB.out.size)); have HR1 := Aside0.mk (Kd.R_below HR.out hbw); clear hb hbw hs1 ht1)
         obtain ⟨g7, hg7⟩ : ∃ g, g = wr.heap.size := ⟨_, rfl⟩
         rw [← hg7] at HT1 t0 ⊢
         clear hg7
         go_loopg [8] sl (fun kq v8 w' => ∃ j : Nat, v8 = .int .i64 j ∧ j ≤ sl ∧ Aside0 (kq = sl - j) ∧ Aside0 (∀ q, q < j → ¬ seen[q]? = some t.f0) ∧ Aside0 (Below w1.heap.size w1 w'))
         case atStart => exact ⟨0, rfl, Nat.zero_le _, ⟨rfl⟩, ⟨fun q h => absurd h (by omega)⟩, ⟨Below.refl _ _⟩⟩
         case round =>
          clear r2 t0
          obtain ⟨j, rfl, hj, HKj, HN, HX⟩ := hrel
          have t0 : wr.cell? ⟨g7, 0, none⟩ = some (.int .i64 t.f0) := (blkc (blk_below HT1.out HX.out) 0 rfl).1
          by_cases hjl : j < sl
          ·obtain ⟨k3, rfl⟩ : ∃ k3, gk = k3 + 1 := ⟨gk - 1, by have := HKj.out; omega⟩
           have HK3 := Aside0.mk (show k3 = sl - (j + 1) by have := HKj.out; omega)
           have hCu := Kd.C_below (Kd.R_reads' HR1.out).2.2 HX.out
           have hjs : j < seen.length := by rw [HSL.out]; exact hjl
           obtain ⟨adu, eu, _⟩ := hCu.2.2 (by omega)
           subst eu
           have q1 := Kd.foot_int hCu (j : Int) (by omega) (by omega)
           rw [Int.toNat_natCast, rd_nat seen j hjs] at q1
           have hjg : seen[j]? = some seen[j] := List.getElem?_eq_getElem hjs
           obtain ⟨z, hz⟩ : ∃ z, seen[j] = z := ⟨_, rfl⟩
           rw [hz] at q1 hjg
           have HJG := Aside0.mk hjg
           clear hCu hjs hz hjg HKj
           by_cases he : z = t.f0
           ·subst he
            go_wp2
            go_region
            go_wp2
            go_ret
            refine ⟨?_, by first | exact HB1.out.trans (HX.out.mono HB1.out.size) | exact pw_below_drewN (HB1.out.trans (HX.out.mono HB1.out.size)) _ | exact below_drew (HB1.out.trans (HX.out.mono HB1.out.size))⟩
            have := HA.out
            rw [HST.out, decide_eq_true (HMEM.out j HJG.out), Bool.not_true, Bool.and_false, Bool.false_and, Bool.false_and] at this
            rw [← this]
            rfl
           ·have z1 : (z == t.f0) = false := beq_eq_false_iff_ne.mpr he
            have z2 : decide (z = t.f0) = false := decide_eq_false he
            have HN1 := Aside0.mk (show ∀ q, q < j + 1 → ¬ seen[q]? = some t.f0 by
             intro q hq
             by_cases hqj : q < j
             ·exact HN.out q hqj
             ·obtain rfl : q = j := by omega
              rw [HJG.out]
              intro h
              exact he (Option.some.inj h))
            clear he HN
            go_wp2
            go_region
            go_wp2
            go_roundg k3
            case measure => omega
            case rel => exact ⟨j + 1, by first | rfl | (congr 1; omega) | (simp; done), hjl, HK3, HN1, ⟨by first | exact HX.out | exact below_drew HX.out | exact pw_below_drewN HX.out _⟩⟩
          ·obtain rfl : j = sl := by omega
           have hni : ¬ t.f0 ∈ seen := fun h => by
            obtain ⟨q, hq⟩ := List.mem_iff_getElem?.1 h
            have := (List.getElem?_eq_some_iff.1 hq).1
            exact HN.out q (by rw [← HSL.out]; exact this) hq
           have HNI := Aside0.mk hni
           have HB3 := Aside0.mk (HB1.out.trans (HX.out.mono HB1.out.size))
           have HR3 := Aside0.mk (Kd.R_below HR1.out HX.out)
           have HT3 := Aside0.mk (blk_below HT1.out HX.out)
           have HS3 := Aside0.mk (blk_below HS1.out HX.out)
           clear hni HN HKj
           have hpre : ∀ (b : Bool), adjP lv (prevOf L i) t = b → ans (inR ls lv L i seen) = ans (b && inR ls lv L (i + 1) (seen ++ [t.f0])) := fun b hb => by
            rw [HST.out, HFT.out, decide_eq_true (by rw [HSL.out]; exact hsn), decide_eq_false HNI.out, hb]
            simp
           have HPRE := Aside0.mk hpre
           clear hpre
           go_upto_region 20 with ((with_reducible refine gate_builtin (b := .append) (xs := #[.tmp 80, .tmp 83]) rfl ?_); at_builtin; refine Kd.R_append (Kd.int .i64) (w0 := w) w.heap.size rfl (.tmp 80) (.tmp 83) 85 3 (.int .i64 0) 8 rfl Try.underlying85 info3h rfl (by decide) (by omega) (.slice Au j cu) seen t.f0 [.int .i64 t.f0] (fun _ => True) (fun _ => False) rfl rfl ?aP (fun _ hk => hk.elim) ?aF ?aO ?aB ?aS ?aL ?_; (case aP => exact rfl); (case aB => exact HB3.out); (case aF => exact (fun _ _ => trivial)); (case aO => exact HR3.out); (case aS => exact HB3.out.size); (case aL => rw [HSL.out]; omega); intro u4 w4 ho hb hg hat; have HT4 := Aside0.mk (blk_grown HT3.out hg (Kd.R_ne HR3.out HT3.out (by decide))); have HS4 := Aside0.mk (blk_grown HS3.out hg (Kd.R_ne HR3.out HS3.out (by decide))); have HB4 := Aside0.mk hb; have HR4 := Aside0.mk ho; clear ho hb hg hat)
           go_cut [122] (fun v122 wc => v122 = .bool (!adjP lv (prevOf L i) t) ∧ Aside0 (Kd.R (Kd.int .i64) 3 wc w.heap.size (fun _ => True) u4 (seen ++ [t.f0])) ∧ Aside0 (wc.heap[w.heap.size]? = some (.cells #[.slice (some ad) ls.length c0, .int .i64 0, .int .i64 2147483648, .int .u64 0] 74 (0, 0))) ∧ Aside0 (Below w.heap.size w wc))
           case first =>
            have b0 := (blkc HT4.out 0 rfl).1
            have b3 := (blkc HT4.out 3 rfl).1
            by_cases hi0 : i = 0
            ·have HAJ := Aside0.mk (show adjP lv (prevOf L i) t = true by unfold adjP prevOf; rw [if_pos hi0])
             have n0 : ¬ ((i : Int) > 0) := by omega
             have n1' : decide ((i : Int) > 0) = false := decide_eq_false n0
             have n2 : decide (0 < i) = false := decide_eq_false (by omega)
             clear hi0
             go_wp2
             go_quiet (fail)
             go_wp2
             go_meet
             case rel => exact ⟨by rw [HAJ.out]; first | rfl | simp, ⟨by first | exact HR4.out | exact Kd.R_drewN HR4.out _⟩, ⟨by first | exact HS4.out | exact blk_drewN HS4.out _⟩, ⟨by first | exact HB4.out | exact pw_below_drewN HB4.out _⟩⟩
            ·have hadj : adjP lv (prevOf L i) t = adjR lv (rd_T44 L ((i - 1 : Nat) : Int)) t := by unfold adjP prevOf; rw [if_neg hi0]
             obtain ⟨ad', A4, n4, ea4, m0, hl4, hi4⟩ := at_L3 (Kd.C_below HC.out HB4.out) (lv : Int) (Int.natCast_nonneg _) (by omega)
             obtain rfl := Option.some.inj ea4
             rw [Int.toNat_natCast, HLE.out] at m0
             rw [HLE.out] at hi4
             obtain ⟨ad4, ea5, v0, v1, v2, v3, v4⟩ := at_T44 hi4 ((i - 1 : Nat) : Int) (Int.natCast_nonneg _) (by omega)
             subst ea5
             rw [Int.toNat_natCast] at v0 v1 v2 v3 v4
             obtain ⟨p, hp⟩ : ∃ p, rd_T44 L ((i - 1 : Nat) : Int) = p := ⟨_, rfl⟩
             rw [hp] at v0 v1 v2 v3 v4 hadj
             have HADJ := Aside0.mk hadj
             have n0 : (i : Int) > 0 := by omega
             have n8 : decide (0 < i) = true := decide_eq_true (by omega)
             have n9 : decide ((i : Int) > 0) = true := decide_eq_true (by omega)
             have n3 : IntKind.i64.wrap ((i : Int) - 1) = ((i - 1 : Nat) : Int) := by rw [i64_w]; unfold wrap64; omega
             have n4' : wrap64 ((i : Int) - 1) = ((i - 1 : Nat) : Int) := by unfold wrap64; omega
             have n5 : (0 ≤ ((i - 1 : Nat) : Int)) = True := eq_true (Int.natCast_nonneg _)
             have n6 : (((i - 1 : Nat) : Int) < (L.length : Int)) = True := eq_true (by omega)
             have n7 : i - 1 < L.length := by omega
             clear hp hadj hl4 hi4 hi0 v1 v2 v3 ea4
             by_cases hl0 : lv = 0
             ·have hlz : ((lv : Int) == 0) = true := by rw [hl0]; rfl
              have hlg : ¬ ((lv : Int) > 0) := by omega
              have hlg2 : decide ((lv : Int) > 0) = false := decide_eq_false hlg
              have hlg3 : decide (0 < lv) = false := decide_eq_false (by omega)
              have hlz2 : decide ((lv : Int) = 0) = true := decide_eq_true (by omega)
              have hlz3 : decide (lv = 0) = true := decide_eq_true hl0
              by_cases hq : p.f0 < t.f0
              ·have HAJ := Aside0.mk (show adjP lv (prevOf L i) t = true by rw [HADJ.out]; unfold adjR; rw [if_pos hl0]; exact decide_eq_true hq)
               have hq1 : ¬ (p.f0 ≥ t.f0) := by omega
               have hq2 : decide (p.f0 ≥ t.f0) = false := decide_eq_false hq1
               have hq3 : decide (t.f0 ≤ p.f0) = false := decide_eq_false (by omega)
               clear hl0 hq
               go_wp2
               go_quiet (fail)
               go_wp2
               go_meet
               case rel => exact ⟨by rw [HAJ.out]; first | rfl | simp, ⟨by first | exact HR4.out | exact Kd.R_drewN HR4.out _⟩, ⟨by first | exact HS4.out | exact blk_drewN HS4.out _⟩, ⟨by first | exact HB4.out | exact pw_below_drewN HB4.out _⟩⟩
              ·have HAJ := Aside0.mk (show adjP lv (prevOf L i) t = false by rw [HADJ.out]; unfold adjR; rw [if_pos hl0]; exact decide_eq_false hq)
               have hq1 : p.f0 ≥ t.f0 := by omega
               have hq2 : decide (p.f0 ≥ t.f0) = true := decide_eq_true hq1
               have hq3 : decide (t.f0 ≤ p.f0) = true := decide_eq_true (by omega)
               clear hl0 hq
               go_wp2
               go_quiet (fail)
               go_wp2
               go_meet
               case rel => exact ⟨by rw [HAJ.out]; first | rfl | simp, ⟨by first | exact HR4.out | exact Kd.R_drewN HR4.out _⟩, ⟨by first | exact HS4.out | exact blk_drewN HS4.out _⟩, ⟨by first | exact HB4.out | exact pw_below_drewN HB4.out _⟩⟩
             ·have hlz : ((lv : Int) == 0) = false := beq_eq_false_iff_ne.mpr (by omega)
              have hlg : (lv : Int) > 0 := by omega
              have hlg2 : decide ((lv : Int) > 0) = true := decide_eq_true hlg
              have hlg3 : decide (0 < lv) = true := decide_eq_true (by omega)
              have hlz2 : decide ((lv : Int) = 0) = false := decide_eq_false (by omega)
              have hlz3 : decide (lv = 0) = false := decide_eq_false hl0
              have hlz4 : (lv = 0) = False := eq_false hl0
              by_cases hq : Op.bytesLess p.f4.toList t.f3.toList = true
              ·have HAJ := Aside0.mk (show adjP lv (prevOf L i) t = true by rw [HADJ.out]; unfold adjR; rw [if_neg hl0]; exact hq)
               clear hl0
               go_wp2
               go_quiet (fail)
               go_wp2
               go_meet
               case rel => exact ⟨by rw [HAJ.out]; first | rfl | simp, ⟨by first | exact HR4.out | exact Kd.R_drewN HR4.out _⟩, ⟨by first | exact HS4.out | exact blk_drewN HS4.out _⟩, ⟨by first | exact HB4.out | exact pw_below_drewN HB4.out _⟩⟩
              ·have hq := Bool.eq_false_iff.mpr hq
               have HAJ := Aside0.mk (show adjP lv (prevOf L i) t = false by rw [HADJ.out]; unfold adjR; rw [if_neg hl0]; exact hq)
               clear hl0
               go_wp2
               go_quiet (fail)
               go_wp2
               go_meet
               case rel => exact ⟨by rw [HAJ.out]; first | rfl | simp, ⟨by first | exact HR4.out | exact Kd.R_drewN HR4.out _⟩, ⟨by first | exact HS4.out | exact blk_drewN HS4.out _⟩, ⟨by first | exact HB4.out | exact pw_below_drewN HB4.out _⟩⟩
           case rest =>
            obtain ⟨rfl, HR5, HS5, HB5⟩ := hcut
            obtain ⟨b, hb⟩ : ∃ b, adjP lv (prevOf L i) t = b := ⟨_, rfl⟩
            have HP := Aside0.mk (HPRE.out b hb)
            rw [hb]
            cases b with
            | true =>
             clear hb
             go_wp2
             go_roundg k2
             case measure => omega
             case rel => exact ⟨i + 1, seen ++ [t.f0], u4, rfl, by first | rfl | (congr 1; omega) | (simp; done), by omega, by rw [List.length_append, HSL.out]; exact hsn, HK2, ⟨by have := HP.out; rw [Bool.true_and] at this; rw [← this]; exact HA.out⟩, HR5, HS5, HB5⟩
            | false =>
             clear hb
             go_wp2
             go_ret
             refine ⟨?_, HB5.out⟩
             have := HA.out
             rw [HP.out, Bool.false_and] at this
             rw [← this]
             rfl
        ·have hsn2 : (sl : Int) ≥ 1024 := by omega
         go_wp2_with (go_at_call 56; refine (atriumref11_file.calls _ _ _ _ _ _ _ ((file_ref t).trans (congrArg some HFT.out))).mono ?_; rintro e w1 ⟨rfl, hb⟩; have hbw := HW1.out w1 hb; have hs1 := blk_below HS.out hbw; have r2 : w1.cell? ⟨w.heap.size, 2, none⟩ = some (.int .i64 2147483648) := (blkc hs1 2 rfl).1; have ht1 := blk_below (blk_new wr (.cells #[.int .i64 t.f0, .int .i64 t.f1, .int .i64 t.f2, .string t.f3, .string t.f4] 44)) hb; have t0 : w1.cell? ⟨wr.heap.size, 0, none⟩ = some (.int .i64 t.f0) := (blkc ht1 0 rfl).1; have HB1 := Aside0.mk (HB.out.trans (hbw.mono HB.out.size)); clear hb hbw hs1 ht1)
         go_ret
         refine ⟨?_, HB1.out⟩
         have := HA.out
         rw [HST.out, HSL.out, decide_eq_false hsn, Bool.and_false, Bool.false_and, Bool.false_and, Bool.false_and] at this
         rw [← this]
         rfl
       ·have hff := Bool.eq_false_iff.mpr hf
        have HFF := Aside0.mk hff
        clear hf hff HF0
        go_wp2_with (go_at_call 56; refine (atriumref11_file.calls _ _ _ _ _ _ _ ((file_ref t).trans (congrArg some HFF.out))).mono ?_; rintro e w1 ⟨rfl, hb⟩; have HB1 := Aside0.mk ((below_alloc HB.out _).trans (hb.mono (below_alloc HB.out _).size)); clear hb)
        go_ret
        refine ⟨?_, HB1.out⟩
        have := HA.out
        rw [HST.out, HFF.out, Bool.false_and, Bool.false_and, Bool.false_and, Bool.false_and] at this
        rw [← this]
        rfl
      ·obtain rfl : i = L.length := by omega
       rw [inR_end ls lv L seen hs] at HA
       go_wp2
       go_roundg k1
       case measure => omega
       case rel => exact ⟨lv + 1, seen, u, rfl, by first | rfl | (congr 1; omega) | (simp; done), hlt, hs, HK1, HA, HR, HS, HB⟩
    ·obtain rfl : lv = ls.length := by omega
     obtain ⟨z1, _⟩ := blkc HS.out 1 rfl
     obtain ⟨z2, _⟩ := blkc HS.out 2 rfl
     obtain ⟨z3, _⟩ := blkc HS.out 3 rfl
     go_wp2
     go_ret
     refine ⟨?_, HB.out⟩
     have := HA.out
     rw [List.drop_length] at this
     rw [← this]
     rfl
theorem rd_mem (ls : List (List S44)) (n : Int) : rd_L3 ls n = [] ∨ rd_L3 ls n ∈ ls := by
 unfold rd_L3
 rw [List.getD_eq_getElem?_getD]
 by_cases h : n.toNat < ls.length
 ·rw [List.getElem?_eq_getElem h]
  exact .inr (List.getElem_mem h)
 ·rw [List.getElem?_eq_none (by omega)]
  exact .inl rfl
def atriumref11_Check.f (l0_0 : List (List S44)) (a0_1 a0_2 a0_3 : Int) : Option Int := if a0_1 = 0 ∧ a0_2 = 2147483648 ∧ a0_3 = 0 ∧ ∀ l ∈ l0_0, l.length ≤ 2513169434916 then some (ans (okF l0_0)) else none
theorem atriumref11_Check.calls (A0_0 : Option Addr) (c0_0 : Nat) (l0_0 : List (List S44)) (a0_1 : Int) (a0_2 : Int) (a0_3 : Int) (r : Int) (w : World) (hr0_0 : Kd.C (Kd.slice 44 k44) w A0_0 l0_0.length l0_0) (hc0_0 : l0_0.length ≤ c0_0) (h : atriumref11_Check.f l0_0 a0_1 a0_2 a0_3 = some r) :
  Calls Try.prog 39 #[.agg #[.slice A0_0 l0_0.length c0_0, .int .i64 a0_1, .int .i64 a0_2, .int .u64 a0_3]] w fun e w' => e = .returned (.int .i64 r) ∧ Below w.heap.size w w' := by
 unfold atriumref11_Check.f at h
 by_cases hc : a0_1 = 0 ∧ a0_2 = 2147483648 ∧ a0_3 = 0 ∧ ∀ l ∈ l0_0, l.length ≤ 2513169434916
 ·rw [if_pos hc] at h
  obtain ⟨rfl, rfl, rfl, hl⟩ := hc
  obtain rfl := Option.some.inj h
  exact rcheck_core A0_0 c0_0 l0_0 w hr0_0 hc0_0 (fun n => by
   rcases rd_mem l0_0 n with e | e
   ·rw [e]; exact Nat.zero_le _
   ·exact hl _ e)
 ·rw [if_neg hc] at h
  cases h
end Go.Proofs.Ytdibolblgchpdaa.P
