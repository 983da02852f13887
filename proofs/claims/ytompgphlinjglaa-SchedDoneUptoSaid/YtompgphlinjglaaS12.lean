/- Contracts: the program's Loop.Step, first part: the clock. -/
import Derived.Test.YtompgphlinjglaaS9
import Derived.Test.YtompgphlinjglaaS5
namespace Go.Proofs.Ytompgphlinjglaa.P
open Go.RowKit Go.Proofs.YtompgphlinjglaaW.PrintWords Go.Proofs.YtompgphlinjglaaW.PrintLast Go.Proofs.YtompgphlinjglaaW.PrintMore
attribute [local go_sem] Oper.semAt_some
set_option linter.unusedVariables false
set_option linter.unusedSimpArgs false

theorem meth_step (a : Addr) (w : World) : (method (111 + Made.depth) 59 (.pointer (some a)) "Step").run Try.prog w = .ok (26, .pointer (some a)) w := by kernel_rfl
theorem invoke_run {ρ : Operand → Value} {oi : Oper} {recv : Operand} {ao : Array Operand} {ts : Array TypeId} {a : Addr} {y : Value} (w : World) (hop : oi.op = .call { callee := .invoke recv "Step", args := ao, argTypes := ts }) (hr : ρ recv = .iface 59 (.pointer (some a))) (ha : ao.map ρ = #[y]) :
    (execOp ρ oi).run Try.prog w = .ok (.enter 26 #[.pointer (some a), y]) w := by
  have he := enters_ (P := Try.prog) Try.func26 (by kernel_rfl) rfl #[Value.pointer (some a), y] w
  have hm := meth_step a w
  unfold execOp
  simp [hop, resolve, invoke, callMethod, hr, ha]
  rw [hm]
  exact he
section
variable {k : Nat} {w : World} {g : Nat → Tag} {p : Nat} {S : LS} {bs : List Nat}
theorem stepNot_calls (h : LoopIs k w g p S bs) (hn : S.tasks.length ≤ 64) (pick : Int) (hs : stepsF S pick = false) :
    Calls Try.prog 11 #[.pointer (some ⟨p, 0, none⟩), .int .i64 pick] w fun e w' => e = .returned (.tuple #[.int .i64 0, .bool false]) ∧ Below w.heap.size w w' := by
  have HR := Aside0.mk (ready_calls h hn)
  have HS := Aside0.mk hs
  by_cases hp : pick < 0
  · have hd : decide (pick < 0) = true := decide_eq_true hp
    clear h hn hs hp
    go_enter Try.func11, Try.ntmps11
    go_wp2_with (go_at_call 15; refine HR.out.mono ?_; rintro e w1 ⟨v, rfl, hR, hB⟩; have HB := Aside0.mk hB; obtain ⟨A, c, rfl⟩ := Kd.R_slice hR; clear hR hB)
    go_ret2
    exact ⟨rfl, HB.out⟩
  · have hd : decide (pick < 0) = false := decide_eq_false hp
    have he : readyF S = [] := by
      unfold stepsF at hs
      rw [decide_eq_true (show 0 ≤ pick by omega)] at hs
      simpa using hs
    rw [he] at HR
    clear h hn hs hp he
    go_enter Try.func11, Try.ntmps11
    go_wp2_with (go_at_call 15; refine HR.out.mono ?_; rintro e w1 ⟨v, rfl, hR, hB⟩; have HB := Aside0.mk hB; obtain ⟨A, c, rfl⟩ := Kd.R_slice hR; clear hR hB)
    go_ret2
    exact ⟨rfl, HB.out⟩
end
end Go.Proofs.Ytompgphlinjglaa.P
