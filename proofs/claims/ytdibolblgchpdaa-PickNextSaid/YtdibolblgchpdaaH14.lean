/- The law PickNext, walked by hand. -/
import Derived.Test.YtdibolblgchpdaaH12
namespace Go.Proofs.Ytdibolblgchpdaa.P
open Go.RowKit Go.Proofs.YtdibolblgchpdaaW.PrintWords Go.Proofs.YtdibolblgchpdaaW.PrintLast Go.Proofs.YtdibolblgchpdaaW.PrintMore
attribute [local go_sem] Oper.semAt_some
set_option linter.unusedVariables false
set_option linter.unusedSimpArgs false

/-- What stands in memory at PickNext's comparisons. -/
structure NxSt (w0 : World) (b2 b3 b5 b6 b8 : Nat) (A Ao Aj Ak : Option Addr) (c co cj ck : Nat) (ls : List (List S44)) (o0 o1 o2 o3 o4 o5 o6 : Int) (n : Int) (I : List S63) (b : Bool) (W : World) : Prop where
  hC : Kd.C (Kd.slice 44 k44) W A ls.length ls
  hO : Kd.C (Kd.slice 44 k44) W Ao ls.length ls
  hJ : Kd.C k63 W Aj I.length I
  hK : Kd.C k63 W Ak I.length I
  h2 : W.heap[b2]? = some (.cells #[.slice A ls.length c] 24 (0, 0))
  h3 : W.heap[b3]? = some (.cells #[.int .i64 o0, .int .i64 o1, .int .i64 o2, .int .i64 o3, .int .i64 o4, .int .i64 o5, .int .i64 o6] 28 (0, 0))
  h5 : W.heap[b5]? = some (.cells #[.slice Ao ls.length co] 24 (0, 0))
  h6 : W.heap[b6]? = some (.cells #[.int .i64 n, .slice Aj I.length cj, .bool b] 33 (0, 0))
  h8 : W.heap[b8]? = some (.cells #[.int .i64 n, .slice Ak I.length ck, .bool b] 33 (0, 0))
  hB : Below w0.heap.size w0 W
section
variable {w0 W W' : World} {b2 b3 b5 b6 b8 : Nat} {A Ao Aj Ak : Option Addr} {c co cj ck : Nat} {ls : List (List S44)} {o0 o1 o2 o3 o4 o5 o6 n : Int} {I : List S63} {b : Bool}
theorem NxSt.next (h : NxSt w0 b2 b3 b5 b6 b8 A Ao Aj Ak c co cj ck ls o0 o1 o2 o3 o4 o5 o6 n I b W) (hb : Below W.heap.size W W') : NxSt w0 b2 b3 b5 b6 b8 A Ao Aj Ak c co cj ck ls o0 o1 o2 o3 o4 o5 o6 n I b W' :=
  ⟨Kd.C_below h.hC hb, Kd.C_below h.hO hb, Kd.C_below h.hJ hb, Kd.C_below h.hK hb, blk_below h.h2 hb, blk_below h.h3 hb, blk_below h.h5 hb, blk_below h.h6 hb, blk_below h.h8 hb, h.hB.trans (hb.mono h.hB.size)⟩
theorem NxSt.cells (h : NxSt w0 b2 b3 b5 b6 b8 A Ao Aj Ak c co cj ck ls o0 o1 o2 o3 o4 o5 o6 n I b W) : W.cell? ⟨b2, 0, none⟩ = some (.slice A ls.length c) ∧ W.cell? ⟨b3, 0, none⟩ = some (.int .i64 o0) ∧ W.cell? ⟨b3, 1, none⟩ = some (.int .i64 o1) ∧ W.cell? ⟨b3, 2, none⟩ = some (.int .i64 o2) ∧ W.cell? ⟨b3, 3, none⟩ = some (.int .i64 o3) ∧ W.cell? ⟨b3, 4, none⟩ = some (.int .i64 o4) ∧ W.cell? ⟨b3, 5, none⟩ = some (.int .i64 o5) ∧ W.cell? ⟨b3, 6, none⟩ = some (.int .i64 o6) ∧ W.cell? ⟨b5, 0, none⟩ = some (.slice Ao ls.length co) ∧ W.cell? ⟨b6, 0, none⟩ = some (.int .i64 n) ∧ W.cell? ⟨b6, 1, none⟩ = some (.slice Aj I.length cj) ∧ W.cell? ⟨b6, 2, none⟩ = some (.bool b) ∧ W.cell? ⟨b8, 0, none⟩ = some (.int .i64 n) ∧ W.cell? ⟨b8, 1, none⟩ = some (.slice Ak I.length ck) ∧ W.cell? ⟨b8, 2, none⟩ = some (.bool b) :=
  ⟨(blkc h.h2 0 rfl).1, (blkc h.h3 0 rfl).1, (blkc h.h3 1 rfl).1, (blkc h.h3 2 rfl).1, (blkc h.h3 3 rfl).1, (blkc h.h3 4 rfl).1, (blkc h.h3 5 rfl).1, (blkc h.h3 6 rfl).1, (blkc h.h5 0 rfl).1, (blkc h.h6 0 rfl).1, (blkc h.h6 1 rfl).1, (blkc h.h6 2 rfl).1, (blkc h.h8 0 rfl).1, (blkc h.h8 1 rfl).1, (blkc h.h8 2 rfl).1⟩
end
set_option maxHeartbeats 8000000 in
set_option maxRecDepth 100000 in
theorem pickNext_calls (A : Option Addr) (c : Nat) (ls : List (List S44)) (o0 o1 o2 o3 o4 o5 o6 : Int) (w : World) (hC : Kd.C (Kd.slice 44 k44) w A ls.length ls) (hc : ls.length ≤ c) (hls : ls.length ≤ 5864062014805) (hl : ∀ l ∈ ls, l.length < 2513169434916) :
    Calls Try.prog 3 #[.agg #[.slice A ls.length c], .agg #[.int .i64 o0, .int .i64 o1, .int .i64 o2, .int .i64 o3, .int .i64 o4, .int .i64 o5, .int .i64 o6]] w fun e w' => e = .returned (.bool true) ∧ Below w.heap.size w w' := by
  have hl1 : ∀ l ∈ ls, l.length ≤ 2513169434916 := fun l h => by have := hl l h; omega
  have hl2 : ∀ l ∈ ls, l.length ≤ 4611686018427387904 := fun l h => by have := hl l h; omega
  have hl3 : ∀ n : Int, (rd_L3 ls n).length ≤ 4611686018427387904 := fun n => by
    rcases rd_mem ls n with e | e
    · rw [e]; simp
    · exact hl2 _ e
  obtain ⟨K1, h1⟩ := copied_ev ls hls hl
  obtain ⟨K2, h2⟩ := sameJ_ev (nextF ls o0 o1 o2 o3 o4 o5 o6).1.f0 (nextF ls o0 o1 o2 o3 o4 o5 o6).1.f1 (nextF ls o0 o1 o2 o3 o4 o5 o6).1.f2 (Nat.le_trans (nextF_len ls o0 o1 o2 o3 o4 o5 o6) (by decide))
  obtain ⟨K3, h3⟩ := prests_ev ls o0 o1 o2 o3 o4 o5 o6
  obtain ⟨K4, h4⟩ := rrests_ev ls o0 o1 o2 o3 o4 o5 o6 hl1
  obtain ⟨K5, h5⟩ := pwork_ev ls hl2
  obtain ⟨K6, h6⟩ := rwork_ev ls hl1
  obtain ⟨K7, h7⟩ := sameV_ev ls (by omega) hl3
  have h8 := rright_val ls hl1
  obtain ⟨k, hk⟩ : ∃ k, k = max (max (max K1 K2) (max K3 K4)) (max (max K5 K6) K7) := ⟨_, rfl⟩
  have HK1 := Aside0.mk (h1 k (by omega))
  have HK2' := h2 k (by omega)
  have HK3 := Aside0.mk (h3 k (by omega))
  have HK4 := Aside0.mk (h4 k (by omega))
  have HK5 := Aside0.mk (h5 k (by omega))
  have HK6 := Aside0.mk (h6 k (by omega))
  have HK7 := Aside0.mk (h7 k (by omega))
  have HK8 := Aside0.mk h8
  have HK9 := Aside0.mk (opt_val o0 o1 o2 o3 o4 o5 o6)
  have hrel : okF ls = true → mayB o0 o1 o2 o3 o4 o5 o6 = true → (nextF ls o0 o1 o2 o3 o4 o5 o6).2 = !(restsF ls o0 o1 o2 o3 o4 o5 o6) := by
    intro a b
    unfold nextF restsF
    rw [if_pos ⟨b, a⟩, a, b]
    cases fullV (condF ls o4 o5 o6) <;> rfl
  have HP : ∀ (A' : Option Addr) (c' : Nat) (W : World), Kd.C (Kd.slice 44 k44) W A' ls.length ls → ls.length ≤ c' → Calls Try.prog 9 #[.agg #[.slice A' ls.length c'], .agg #[.int .i64 o0, .int .i64 o1, .int .i64 o2, .int .i64 o3, .int .i64 o4, .int .i64 o5, .int .i64 o6]] W _ := fun A' c' W hC hc => pnext A' c' ls o0 o1 o2 o3 o4 o5 o6 W hC hc
  have HN : ∀ (A' : Option Addr) (c' : Nat) (W : World), Kd.C (Kd.slice 44 k44) W A' ls.length ls → ls.length ≤ c' → Calls Try.prog 10 #[.agg #[.slice A' ls.length c'], .agg #[.int .i64 o0, .int .i64 o1, .int .i64 o2, .int .i64 o3, .int .i64 o4, .int .i64 o5, .int .i64 o6]] W _ := fun A' c' W hC hc => rnext A' c' ls o0 o1 o2 o3 o4 o5 o6 W hC hc hl1
  obtain ⟨J, hJ⟩ : ∃ J, nextF ls o0 o1 o2 o3 o4 o5 o6 = J := ⟨_, rfl⟩
  obtain ⟨⟨jn, jI, jb⟩, js⟩ := J
  obtain ⟨rs, hrs⟩ : ∃ r, restsF ls o0 o1 o2 o3 o4 o5 o6 = r := ⟨_, rfl⟩
  obtain ⟨rt, hrt⟩ : ∃ r, okF ls = r := ⟨_, rfl⟩
  obtain ⟨mt, hmt⟩ : ∃ r, mayB o0 o1 o2 o3 o4 o5 o6 = r := ⟨_, rfl⟩
  obtain ⟨wk, hwk⟩ : ∃ r, workF ls = r := ⟨_, rfl⟩
  rw [hJ, hrs, hrt, hmt] at hrel
  rw [hJ] at HK2' HP HN
  rw [hrs] at HK3 HK4
  rw [hwk] at HK5 HK6
  rw [hrt] at HK8
  rw [hmt] at HK9
  dsimp only at hrel HK2' HP HN
  have HK2 := Aside0.mk HK2'
  have HPA := Aside0.mk HP
  have HNA := Aside0.mk HN
  have HREL := Aside0.mk hrel
  have HC := Aside0.mk hC
  clear hC hrel HP HN HK2' hJ hrs hrt hmt hwk h1 h2 h3 h4 h5 h6 h7 h8 hk hl hl1 hl2 hl3
  have g2 := World.alloc_heap_new w (.cells #[.slice A ls.length c] 24)
  have G2 := Aside0.mk (blk_alloc g2 (.cells #[.int .i64 o0, .int .i64 o1, .int .i64 o2, .int .i64 o3, .int .i64 o4, .int .i64 o5, .int .i64 o6] 28))
  have g3 := World.alloc_heap_new (w.alloc (.cells #[.slice A ls.length c] 24)) (.cells #[.int .i64 o0, .int .i64 o1, .int .i64 o2, .int .i64 o3, .int .i64 o4, .int .i64 o5, .int .i64 o6] 28)
  rw [World.size_alloc] at g3
  have G3 := Aside0.mk g3
  have GB := Aside0.mk (below_alloc (below_alloc (Below.refl w.heap.size w) (.cells #[.slice A ls.length c] 24)) (.cells #[.int .i64 o0, .int .i64 o1, .int .i64 o2, .int .i64 o3, .int .i64 o4, .int .i64 o5, .int .i64 o6] 28))
  clear g2 g3
  go_enter Try.func3, Try.ntmps3
  go_wp2_with (first
    | (go_at_call 7; refine (awake_calls _).mono ?_; rintro e w1 ⟨rfl, hb⟩; have Q2 := Aside0.mk (blk_below G2.out hb); have Q3 := Aside0.mk (blk_below G3.out hb); have QB := Aside0.mk (GB.out.trans (hb.mono GB.out.size)); have p2 := (blkc Q2.out 0 rfl).1; clear hb)
    | (go_at_call 8; refine (atriumlaw12_copied.calls k A c ls ls _ (Kd.C_below HC.out QB.out) hc HK1.out).mono ?_; rintro e w2 ⟨v2, rfl, hs, hb⟩; obtain ⟨Ao, co, rfl, hlo, hCo⟩ := Kd.R_reads (Kd.S_R hs); have HO := Aside0.mk hCo; have HLO := Aside0.mk hlo; have R2 := Aside0.mk (blk_alloc (blk_below Q2.out hb) (.cells #[.slice Ao ls.length co] 24)); have R3 := Aside0.mk (blk_alloc (blk_below Q3.out hb) (.cells #[.slice Ao ls.length co] 24)); have RB := Aside0.mk (below_alloc (QB.out.trans (hb.mono QB.out.size)) (.cells #[.slice Ao ls.length co] 24)); have R5 := Aside0.mk (World.alloc_heap_new w2 (.cells #[.slice Ao ls.length co] 24)); have RO := Aside0.mk (Kd.C_alloc hCo (.cells #[.slice Ao ls.length co] 24)); have x0 := (blkc R3.out 0 rfl).1; have x1 := (blkc R3.out 1 rfl).1; have x2 := (blkc R3.out 2 rfl).1; have x3 := (blkc R3.out 3 rfl).1; have x4 := (blkc R3.out 4 rfl).1; have x5 := (blkc R3.out 5 rfl).1; have x6 := (blkc R3.out 6 rfl).1; clear hb hs hCo hlo p2)
    | (go_at_call 9; refine (HPA.out Ao co _ RO.out HLO.out).mono ?_; rintro e w3 ⟨v3, rfl, hr, hb⟩; obtain ⟨Aj, cj, rfl, hlj, hCj⟩ := Kd.R_reads hr; have HLJ := Aside0.mk hlj; have SJ := Aside0.mk (Kd.C_alloc hCj (.cells #[.int .i64 jn, .slice Aj jI.length cj, .bool jb] 33)); have S2 := Aside0.mk (blk_alloc (blk_below R2.out hb) (.cells #[.int .i64 jn, .slice Aj jI.length cj, .bool jb] 33)); have S3 := Aside0.mk (blk_alloc (blk_below R3.out hb) (.cells #[.int .i64 jn, .slice Aj jI.length cj, .bool jb] 33)); have S5 := Aside0.mk (blk_alloc (blk_below R5.out hb) (.cells #[.int .i64 jn, .slice Aj jI.length cj, .bool jb] 33)); have SO := Aside0.mk (Kd.C_alloc (Kd.C_below RO.out hb) (.cells #[.int .i64 jn, .slice Aj jI.length cj, .bool jb] 33)); have SB := Aside0.mk (below_alloc (RB.out.trans (hb.mono RB.out.size)) (.cells #[.int .i64 jn, .slice Aj jI.length cj, .bool jb] 33)); have S6 := Aside0.mk (World.alloc_heap_new w3 (.cells #[.int .i64 jn, .slice Aj jI.length cj, .bool jb] 33)); have p2 := (blkc S2.out 0 rfl).1; have y0 := (blkc S3.out 0 rfl).1; have y1 := (blkc S3.out 1 rfl).1; have y2 := (blkc S3.out 2 rfl).1; have y3 := (blkc S3.out 3 rfl).1; have y4 := (blkc S3.out 4 rfl).1; have y5 := (blkc S3.out 5 rfl).1; have y6 := (blkc S3.out 6 rfl).1; clear hb hr hCj hlj)
    | (go_at_call 10; refine (HNA.out A c _ (Kd.C_below HC.out SB.out) hc).mono ?_; rintro e w4 ⟨v4, rfl, hr, hb⟩; obtain ⟨Ak, ck, rfl, hlk, hCk⟩ := Kd.R_reads hr; have HLK := Aside0.mk hlk; have TT := Aside0.mk (NxSt.mk (n := jn) (b := jb) (Kd.C_below HC.out (below_alloc (SB.out.trans (hb.mono SB.out.size)) (.cells #[.int .i64 jn, .slice Ak jI.length ck, .bool jb] 33))) (Kd.C_alloc (Kd.C_below SO.out hb) (.cells #[.int .i64 jn, .slice Ak jI.length ck, .bool jb] 33)) (Kd.C_alloc (Kd.C_below SJ.out hb) (.cells #[.int .i64 jn, .slice Ak jI.length ck, .bool jb] 33)) (Kd.C_alloc hCk (.cells #[.int .i64 jn, .slice Ak jI.length ck, .bool jb] 33)) (blk_alloc (blk_below S2.out hb) (.cells #[.int .i64 jn, .slice Ak jI.length ck, .bool jb] 33)) (blk_alloc (blk_below S3.out hb) (.cells #[.int .i64 jn, .slice Ak jI.length ck, .bool jb] 33)) (blk_alloc (blk_below S5.out hb) (.cells #[.int .i64 jn, .slice Ak jI.length ck, .bool jb] 33)) (blk_alloc (blk_below S6.out hb) (.cells #[.int .i64 jn, .slice Ak jI.length ck, .bool jb] 33)) (World.alloc_heap_new w4 (.cells #[.int .i64 jn, .slice Ak jI.length ck, .bool jb] 33)) (below_alloc (SB.out.trans (hb.mono SB.out.size)) (.cells #[.int .i64 jn, .slice Ak jI.length ck, .bool jb] 33))); clear hb hr hCk hlk))
  clear SO SJ S2 S3 S5 S6 SB R2 R3 R5 RO RB Q2 Q3 QB G2 G3 GB p2 x0 y0 x1 y1 x2 y2 x3 y3 x4 y4 x5 y5 x6 y6
  generalize w4.alloc (.cells #[.int .i64 jn, .slice Ak jI.length ck, .bool jb] 33) = v0 at TT ⊢
  generalize w4.heap.size = b8 at TT ⊢
  generalize w3.heap.size = b6 at TT ⊢
  generalize w2.heap.size = b5 at TT ⊢
  generalize w.heap.size + 1 = b3 at TT ⊢
  generalize hb2 : w.heap.size = b2 at TT ⊢
  have HST : NxSt w b2 b3 b5 b6 b8 A Ao Aj Ak c co cj ck ls o0 o1 o2 o3 o4 o5 o6 jn jI jb v0 := TT.out
  have HSTD : NxSt w b2 b3 b5 b6 b8 A Ao Aj Ak c co cj ck ls o0 o1 o2 o3 o4 o5 o6 jn jI jb v0.drew := HST.next (below_drew1 (Below.refl _ _))
  clear TT
  go_cut [56] (fun v56 wc => v56 = .bool false ∧ Aside0 (NxSt w b2 b3 b5 b6 b8 A Ao Aj Ak c co cj ck ls o0 o1 o2 o3 o4 o5 o6 jn jI jb wc))
  case first =>
    go_region_held3 (fun w' => w'.cell? ⟨b2, 0, none⟩ = some (.slice A ls.length c) ∧ w'.cell? ⟨b3, 0, none⟩ = some (.int .i64 o0) ∧ w'.cell? ⟨b3, 1, none⟩ = some (.int .i64 o1) ∧ w'.cell? ⟨b3, 2, none⟩ = some (.int .i64 o2) ∧ w'.cell? ⟨b3, 3, none⟩ = some (.int .i64 o3) ∧ w'.cell? ⟨b3, 4, none⟩ = some (.int .i64 o4) ∧ w'.cell? ⟨b3, 5, none⟩ = some (.int .i64 o5) ∧ w'.cell? ⟨b3, 6, none⟩ = some (.int .i64 o6) ∧ w'.cell? ⟨b5, 0, none⟩ = some (.slice Ao ls.length co) ∧ w'.cell? ⟨b6, 0, none⟩ = some (.int .i64 jn) ∧ w'.cell? ⟨b6, 1, none⟩ = some (.slice Aj jI.length cj) ∧ w'.cell? ⟨b6, 2, none⟩ = some (.bool jb) ∧ w'.cell? ⟨b8, 0, none⟩ = some (.int .i64 jn) ∧ w'.cell? ⟨b8, 1, none⟩ = some (.slice Ak jI.length ck) ∧ w'.cell? ⟨b8, 2, none⟩ = some (.bool jb)) (exact NxSt.cells (by assumption)) (first
      | (go_at_call 11; refine (atriumlaw12_sameJob.calls k jn Aj cj jI jb jn Ak ck jI jb true _ (NxSt.hJ (by assumption)) HLJ.out (NxSt.hK (by assumption)) HLK.out HK2.out).mono ?_; rintro e w' ⟨rfl, hb⟩; have st := NxSt.next (by assumption) hb; clear hb)
      | (go_at_call 12; refine (pick_Rests.calls k Ao co ls o0 o1 o2 o3 o4 o5 o6 rs _ (NxSt.hO (by assumption)) HLO.out HK3.out).mono ?_; rintro e w' ⟨rfl, hb⟩; have st := NxSt.next (by assumption) hb; clear hb)
      | (go_at_call 13; refine (atriumref12_Rests.calls k A c ls o0 o1 o2 o3 o4 o5 o6 rs _ (NxSt.hC (by assumption)) hc HK4.out).mono ?_; rintro e w' ⟨rfl, hb⟩; have st := NxSt.next (by assumption) hb; clear hb)
      | (go_at_call 14; refine (pick_Work.calls k Ao co ls wk _ (NxSt.hO (by assumption)) HLO.out HK5.out).mono ?_; rintro e w' ⟨rfl, hb⟩; have st := NxSt.next (by assumption) hb; clear hb)
      | (go_at_call 15; refine (atriumref12_Work.calls k A c ls wk _ (NxSt.hC (by assumption)) hc HK6.out).mono ?_; rintro e w' ⟨rfl, hb⟩; have st := NxSt.next (by assumption) hb; clear hb)
      | (go_at_call 16; refine (atriumlaw12_sameVersion.calls k Ao co ls A c ls true _ (NxSt.hO (by assumption)) HLO.out (NxSt.hC (by assumption)) hc HK7.out).mono ?_; rintro e w' ⟨rfl, hb⟩; have st := NxSt.next (by assumption) hb; clear hb))
    go_wp2
    go_meet
    case rel => exact ⟨by first | rfl | simp, ⟨by assumption⟩⟩
  case rest =>
    obtain ⟨rfl, HW⟩ := hcut
    obtain ⟨q2, q30, q31, q32, q33, q34, q35, q36, q5, _⟩ := HW.out.cells
    have A1 : 1 = 1 := rfl
    cases rt with
    | false =>
      go_wp2_with (first
        | (go_at_call 17; refine (atriumref12_Right.calls A c ls false _ HW.out.hC hc HK8.out).mono ?_; rintro e v1 ⟨rfl, hb⟩; have HW1 := Aside0.mk (HW.out.next hb); clear hb))
      go_ret
      exact ⟨rfl, HW1.out.hB⟩
    | true =>
      cases mt with
      | false =>
        go_wp2_with (first
          | (go_at_call 17; refine (atriumref12_Right.calls A c ls true _ HW.out.hC hc HK8.out).mono ?_; rintro e v1 ⟨rfl, hb⟩; have HW1 := Aside0.mk (HW.out.next hb); obtain ⟨z2, z30, z31, z32, z33, z34, z35, z36, z5, _⟩ := HW1.out.cells; clear hb)
          | (go_at_call 18; refine (atriumref12_Options.calls o0 o1 o2 o3 o4 o5 o6 false _ HK9.out).mono ?_; rintro e v2 ⟨rfl, hb⟩; have HW2 := Aside0.mk (HW1.out.next hb); clear hb))
        go_ret
        exact ⟨rfl, HW2.out.hB⟩
      | true =>
        obtain rfl := HREL.out rfl rfl
        go_wp2_with (first
          | (go_at_call 17; refine (atriumref12_Right.calls A c ls true _ HW.out.hC hc HK8.out).mono ?_; rintro e v1 ⟨rfl, hb⟩; have HW1 := Aside0.mk (HW.out.next hb); obtain ⟨z2, z30, z31, z32, z33, z34, z35, z36, z5, _⟩ := HW1.out.cells; clear hb)
          | (go_at_call 18; refine (atriumref12_Options.calls o0 o1 o2 o3 o4 o5 o6 true _ HK9.out).mono ?_; rintro e v2 ⟨rfl, hb⟩; have HW2 := Aside0.mk (HW1.out.next hb); obtain ⟨y2, y30, y31, y32, y33, y34, y35, y36, y5, _⟩ := HW2.out.cells; clear hb)
          | (go_at_call 12; refine (pick_Rests.calls k Ao co ls o0 o1 o2 o3 o4 o5 o6 rs _ HW2.out.hO HLO.out HK3.out).mono ?_; rintro e v3 ⟨rfl, hb⟩; have HW3 := Aside0.mk (HW2.out.next hb); clear hb))
        go_ret
        exact ⟨by cases rs <;> rfl, HW3.out.hB⟩
end Go.Proofs.Ytdibolblgchpdaa.P
