/- Contracts of functions of the program. -/
import Derived.Test.YtdibolblgchpdaaTP0
namespace Go.Proofs.Ytdibolblgchpdaa.P
open Go.RowKit Go.Proofs.YtdibolblgchpdaaW.PrintWords Go.Proofs.YtdibolblgchpdaaW.PrintLast Go.Proofs.YtdibolblgchpdaaW.PrintMore
attribute [local go_sem] max2_int min2_int max_two min_two max_three min_three max_four min_four   -- for this text's walks alone
set_option linter.unusedVariables false
set_option linter.unusedSimpArgs false
attribute [local go_sem high] leqS gtrS geqS
/-! ### atriumref12_Options: function 18 -/
def atriumref12_Options.f (a0_0 : Int) (a0_1 : Int) (a0_2 : Int) (a0_3 : Int) (a0_4 : Int) (a0_5 : Int) (a0_6 : Int) : Option (Bool) := if a0_0 ≥ 64 then (if a0_0 ≤ 32768 then (if a0_1 ≥ 1 then (if a0_1 ≤ 64 then (if a0_2 ≥ 1 then (if a0_2 ≤ 32 then (if a0_3 ≥ 1 then (if a0_3 ≤ 262144 then (if a0_4 ≥ 1 then (if a0_4 ≤ 16 then (if a0_5 ≥ 1 then (if a0_5 ≤ 1048576 then (if a0_6 ≥ 2 then (some (decide (a0_6 ≤ 16))) else (some false)) else (some false)) else (some false)) else (some false)) else (some false)) else (some false)) else (some false)) else (some false)) else (some false)) else (some false)) else (some false)) else (some false)) else (some false)
set_option maxHeartbeats 8000000 in
set_option maxRecDepth 100000 in
theorem atriumref12_Options.calls (a0_0 : Int) (a0_1 : Int) (a0_2 : Int) (a0_3 : Int) (a0_4 : Int) (a0_5 : Int) (a0_6 : Int) (r : Bool) (w : World) (h : atriumref12_Options.f a0_0 a0_1 a0_2 a0_3 a0_4 a0_5 a0_6 = some r) :
  Calls Try.prog 18 #[.agg #[.int .i64 a0_0, .int .i64 a0_1, .int .i64 a0_2, .int .i64 a0_3, .int .i64 a0_4, .int .i64 a0_5, .int .i64 a0_6]] w fun e w' => e = .returned (.bool r) ∧ Below w.heap.size w w' := by
 have HB := Aside0.mk (below_alloc (below_alloc (Below.refl w.heap.size w) (.cells #[.int .i64 a0_0, .int .i64 a0_1, .int .i64 a0_2, .int .i64 a0_3, .int .i64 a0_4, .int .i64 a0_5, .int .i64 a0_6] 28)) (.cells #[.int .i64 a0_0, .int .i64 a0_1, .int .i64 a0_2] 26))
 by_cases h0 : a0_0 ≥ 64
 ·by_cases h1 : a0_0 ≤ 32768
  ·by_cases h2 : a0_1 ≥ 1
   ·by_cases h3 : a0_1 ≤ 64
    ·by_cases h4 : a0_2 ≥ 1
     ·by_cases h5 : a0_2 ≤ 32
      ·by_cases h6 : a0_3 ≥ 1
       ·by_cases h7 : a0_3 ≤ 262144
        ·by_cases h8 : a0_4 ≥ 1
         ·by_cases h9 : a0_4 ≤ 16
          ·by_cases h10 : a0_5 ≥ 1
           ·by_cases h11 : a0_5 ≤ 1048576
            ·by_cases h12 : a0_6 ≥ 2
             ·(obtain rfl : r = decide (a0_6 ≤ 16) := (by rw [atriumref12_Options.f, if_pos h0, if_pos h1, if_pos h2, if_pos h3, if_pos h4, if_pos h5, if_pos h6, if_pos h7, if_pos h8, if_pos h9, if_pos h10, if_pos h11, if_pos h12] at h; exact (Option.some.inj h).symm)); (clear h); (go_enter Try.func18, Try.ntmps18; go_wp2; go_ret; exact ⟨by first | rfl | (simp [*] <;> omega), HB.out⟩)
             ·(obtain rfl : r = false := (by rw [atriumref12_Options.f, if_pos h0, if_pos h1, if_pos h2, if_pos h3, if_pos h4, if_pos h5, if_pos h6, if_pos h7, if_pos h8, if_pos h9, if_pos h10, if_pos h11, if_neg h12] at h; exact (Option.some.inj h).symm)); (clear h); (go_enter Try.func18, Try.ntmps18; go_wp2; go_ret; exact ⟨by first | rfl | (simp [*] <;> omega), HB.out⟩)
            ·(obtain rfl : r = false := (by rw [atriumref12_Options.f, if_pos h0, if_pos h1, if_pos h2, if_pos h3, if_pos h4, if_pos h5, if_pos h6, if_pos h7, if_pos h8, if_pos h9, if_pos h10, if_neg h11] at h; exact (Option.some.inj h).symm)); (clear h); (go_enter Try.func18, Try.ntmps18; go_wp2; go_ret; exact ⟨by first | rfl | (simp [*] <;> omega), HB.out⟩)
           ·(obtain rfl : r = false := (by rw [atriumref12_Options.f, if_pos h0, if_pos h1, if_pos h2, if_pos h3, if_pos h4, if_pos h5, if_pos h6, if_pos h7, if_pos h8, if_pos h9, if_neg h10] at h; exact (Option.some.inj h).symm)); (clear h); (go_enter Try.func18, Try.ntmps18; go_wp2; go_ret; exact ⟨by first | rfl | (simp [*] <;> omega), HB.out⟩)
          ·(obtain rfl : r = false := (by rw [atriumref12_Options.f, if_pos h0, if_pos h1, if_pos h2, if_pos h3, if_pos h4, if_pos h5, if_pos h6, if_pos h7, if_pos h8, if_neg h9] at h; exact (Option.some.inj h).symm)); (clear h); (go_enter Try.func18, Try.ntmps18; go_wp2; go_ret; exact ⟨by first | rfl | (simp [*] <;> omega), HB.out⟩)
         ·(obtain rfl : r = false := (by rw [atriumref12_Options.f, if_pos h0, if_pos h1, if_pos h2, if_pos h3, if_pos h4, if_pos h5, if_pos h6, if_pos h7, if_neg h8] at h; exact (Option.some.inj h).symm)); (clear h); (go_enter Try.func18, Try.ntmps18; go_wp2; go_ret; exact ⟨by first | rfl | (simp [*] <;> omega), HB.out⟩)
        ·(obtain rfl : r = false := (by rw [atriumref12_Options.f, if_pos h0, if_pos h1, if_pos h2, if_pos h3, if_pos h4, if_pos h5, if_pos h6, if_neg h7] at h; exact (Option.some.inj h).symm)); (clear h); (go_enter Try.func18, Try.ntmps18; go_wp2; go_ret; exact ⟨by first | rfl | (simp [*] <;> omega), HB.out⟩)
       ·(obtain rfl : r = false := (by rw [atriumref12_Options.f, if_pos h0, if_pos h1, if_pos h2, if_pos h3, if_pos h4, if_pos h5, if_neg h6] at h; exact (Option.some.inj h).symm)); (clear h); (go_enter Try.func18, Try.ntmps18; go_wp2; go_ret; exact ⟨by first | rfl | (simp [*] <;> omega), HB.out⟩)
      ·(obtain rfl : r = false := (by rw [atriumref12_Options.f, if_pos h0, if_pos h1, if_pos h2, if_pos h3, if_pos h4, if_neg h5] at h; exact (Option.some.inj h).symm)); (clear h); (go_enter Try.func18, Try.ntmps18; go_wp2; go_ret; exact ⟨by first | rfl | (simp [*] <;> omega), HB.out⟩)
     ·(obtain rfl : r = false := (by rw [atriumref12_Options.f, if_pos h0, if_pos h1, if_pos h2, if_pos h3, if_neg h4] at h; exact (Option.some.inj h).symm)); (clear h); (go_enter Try.func18, Try.ntmps18; go_wp2; go_ret; exact ⟨by first | rfl | (simp [*] <;> omega), HB.out⟩)
    ·(obtain rfl : r = false := (by rw [atriumref12_Options.f, if_pos h0, if_pos h1, if_pos h2, if_neg h3] at h; exact (Option.some.inj h).symm)); (clear h); (go_enter Try.func18, Try.ntmps18; go_wp2; go_ret; exact ⟨by first | rfl | (simp [*] <;> omega), HB.out⟩)
   ·(obtain rfl : r = false := (by rw [atriumref12_Options.f, if_pos h0, if_pos h1, if_neg h2] at h; exact (Option.some.inj h).symm)); (clear h); (go_enter Try.func18, Try.ntmps18; go_wp2; go_ret; exact ⟨by first | rfl | (simp [*] <;> omega), HB.out⟩)
  ·(obtain rfl : r = false := (by rw [atriumref12_Options.f, if_pos h0, if_neg h1] at h; exact (Option.some.inj h).symm)); (clear h); (go_enter Try.func18, Try.ntmps18; go_wp2; go_ret; exact ⟨by first | rfl | (simp [*] <;> omega), HB.out⟩)
 ·(obtain rfl : r = false := (by rw [atriumref12_Options.f, if_neg h0] at h; exact (Option.some.inj h).symm)); (clear h); (go_enter Try.func18, Try.ntmps18; go_wp2; go_ret; exact ⟨by first | rfl | (simp [*] <;> omega), HB.out⟩)
end Go.Proofs.Ytdibolblgchpdaa.P
