/- What a loop of the scheduler is, in plain Lean: its tasks, its clock, and what a step does. -/
import Derived.Test.YtompgphlinjglaaPSchedPlaysx1
namespace Go.Proofs.Ytompgphlinjglaa.P
open Go.RowKit Go.Proofs.YtompgphlinjglaaW.PrintWords Go.Proofs.YtompgphlinjglaaW.PrintLast Go.Proofs.YtompgphlinjglaaW.PrintMore
set_option linter.unusedVariables false
set_option linter.unusedSimpArgs false

/-- A task that does what a list says. -/
structure TS where
  acts : List (Int × Int)
  pos : Nat
  wait : Int
  told : List Int
  deriving Inhabited
/-- A loop. -/
structure LS where
  picks : List Int
  ticks : List Int
  draws : List Int
  tasks : List TS
  clock : Int
  count : Nat
  used : Nat
  drawn : Nat
def waitsF (S : LS) : List Int := S.tasks.map (·.wait)
def readyTo (ws : List Int) (k : Nat) : List Int := ((List.range k).filter fun i => ws.getD i 0 == 0).map Int.ofNat
def readyW (ws : List Int) : List Int := readyTo ws ws.length
def readyF (S : LS) : List Int := readyW (waitsF S)
theorem readyTo_zero (ws : List Int) : readyTo ws 0 = [] := rfl
theorem readyTo_yes (ws : List Int) (k : Nat) (h : ws.getD k 0 = 0) : readyTo ws (k + 1) = readyTo ws k ++ [(k : Int)] := by
  unfold readyTo
  rw [List.range_succ, List.filter_append, List.map_append, List.filter_cons, if_pos (by simpa using h)]
  rfl
theorem readyTo_no (ws : List Int) (k : Nat) (h : ws.getD k 0 ≠ 0) : readyTo ws (k + 1) = readyTo ws k := by
  unfold readyTo
  rw [List.range_succ, List.filter_append, List.map_append, List.filter_cons, if_neg (by simpa using h)]
  simp
theorem readyTo_len (ws : List Int) (k : Nat) : (readyTo ws k).length ≤ k := by
  unfold readyTo
  rw [List.length_map]
  exact Nat.le_trans (List.length_filter_le _ _) (by simp)
theorem readyTo_mem (ws : List Int) (k : Nat) (x : Int) (h : x ∈ readyTo ws k) : 0 ≤ x ∧ x < k ∧ ws.getD x.toNat 0 = 0 := by
  unfold readyTo at h
  obtain ⟨i, hi, rfl⟩ := List.mem_map.1 h
  obtain ⟨h1, h2⟩ := List.mem_filter.1 hi
  have := List.mem_range.1 h1
  exact ⟨Int.natCast_nonneg _, by show (i : Int) < _; omega, by simpa using h2⟩
def wakeT (c : Int) (t : TS) : TS := if t.wait = c then { t with wait := 0 } else t
def wakeF (c : Int) (S : LS) : LS := if c < 1 then S else { S with tasks := S.tasks.map (wakeT c) }
def wokenTo (c : Int) (ws : List Int) (k : Nat) : Nat := ((ws.take k).filter (· == c)).length
def wokenF (c : Int) (S : LS) : Int := if c < 1 then 0 else (wokenTo c (waitsF S) S.tasks.length : Int)
theorem wokenTo_yes (c : Int) (ws : List Int) (k : Nat) (hk : k < ws.length) (h : ws.getD k 0 = c) : wokenTo c ws (k + 1) = wokenTo c ws k + 1 := by
  unfold wokenTo
  have e : ws[k] = c := by simpa [List.getD_eq_getElem?_getD, List.getElem?_eq_getElem hk] using h
  rw [List.take_succ_eq_append_getElem hk, List.filter_append, List.length_append, List.filter_cons, if_pos (by simpa using e)]
  rfl
theorem wokenTo_no (c : Int) (ws : List Int) (k : Nat) (hk : k < ws.length) (h : ws.getD k 0 ≠ c) : wokenTo c ws (k + 1) = wokenTo c ws k := by
  unfold wokenTo
  have e : ws[k] ≠ c := by simpa [List.getD_eq_getElem?_getD, List.getElem?_eq_getElem hk] using h
  rw [List.take_succ_eq_append_getElem hk, List.filter_append, List.length_append, List.filter_cons, if_neg (by simpa using e)]
  rfl
theorem wokenTo_le (c : Int) (ws : List Int) (k : Nat) : wokenTo c ws k ≤ k := by
  unfold wokenTo
  exact Nat.le_trans (List.length_filter_le _ _) (List.length_take_le _ _)
def mixF (a0 : Int) : Int := Go.bits .xor .u64 (IntKind.u64.wrap ((Go.bits .xor .u64 (IntKind.u64.wrap ((Go.bits .xor .u64 a0 (a0 / 1073741824)) * 13787848793156543929)) ((IntKind.u64.wrap ((Go.bits .xor .u64 a0 (a0 / 1073741824)) * 13787848793156543929)) / 134217728)) * 10723151780598845931)) ((IntKind.u64.wrap ((Go.bits .xor .u64 (IntKind.u64.wrap ((Go.bits .xor .u64 a0 (a0 / 1073741824)) * 13787848793156543929)) ((IntKind.u64.wrap ((Go.bits .xor .u64 a0 (a0 / 1073741824)) * 13787848793156543929)) / 134217728)) * 10723151780598845931)) / 2147483648)
theorem mix_ref (a : Int) : PSchedPlays.atriumref03_Mix.f a = some (mixF a) := rfl
def drawOf (ds : List Int) (n : Nat) : Int := if n < ds.length then ds.getD n 0 else mixF ((n - ds.length : Nat) + 1)
def drawV (S : LS) : Int := drawOf S.draws S.drawn
def setT (S : LS) (n : Nat) (t : TS) : LS := { S with tasks := S.tasks.set n t }
def taskF (S : LS) (n : Nat) : TS := S.tasks.getD n default
def setWait (S : LS) (n : Nat) (x : Int) : LS := setT S n { taskF S n with wait := x }
def actF (t : TS) : Int × Int := t.acts.getD t.pos (0, 0)
/-- What a task's own step turns: where it stands, what it took down, the draws. -/
def tellF (cl dv : Int) (t : TS) : List Int := if (actF t).1 = 4 then [cl] else if (actF t).1 = 5 then [dv] else []
def ownT (cl dv : Int) (t : TS) : TS := if t.pos < t.acts.length then { t with pos := t.pos + 1, told := t.told ++ tellF cl dv t } else t
def drewT (t : TS) : Nat := if t.pos < t.acts.length ∧ (actF t).1 = 5 then 1 else 0
def ownF (S : LS) (n : Nat) : LS := { setT S n (ownT S.clock (drawV S) (taskF S n)) with drawn := S.drawn + drewT (taskF S n) }
def doneF (t : TS) : Bool := decide (t.acts.length ≤ t.pos + 1)
def waitF (t : TS) : Int := if t.pos < t.acts.length ∧ (actF t).1 = 2 then (actF t).2 else 0
def wakesF (t : TS) : List Int := if t.pos < t.acts.length ∧ (actF t).1 = 3 then [(actF t).2] else []
def endF (S : LS) (n : Nat) (d : Bool) (x : Int) : LS := if d = true then setWait S n (-1) else if 1 ≤ x ∧ x ≤ 1024 then setWait S n x else S
def moveF (S : LS) (n : Nat) : LS :=
  let t := taskF S n
  endF ((wakesF t).foldl (fun s c => wakeF c s) (ownF S n)) n (doneF t) (waitF t)
def tickF (S : LS) : LS := if S.count < S.ticks.length then { S with clock := IntKind.u64.wrap (S.clock + IntKind.u64.wrap (S.ticks.getD S.count 0)) } else S
def stepsF (S : LS) (pick : Int) : Bool := decide (0 ≤ pick) && !(readyF S).isEmpty
def goesF (S : LS) (pick : Int) : Nat := ((readyF S).getD (pick % (readyF S).length).toNat 0).toNat
def stepF (S : LS) (pick : Int) : LS := if stepsF S pick = true then { moveF (tickF S) (goesF S pick) with count := S.count + 1 } else S
def whoF (S : LS) (pick : Int) : Int := if stepsF S pick = true then (goesF S pick : Int) else 0
def pickF (S : LS) : Int := S.picks.getD S.used 0
def nextF (S : LS) : LS := if stepsF S (pickF S) = true ∧ S.used < S.picks.length then { stepF S (pickF S) with used := S.used + 1 } else stepF S (pickF S)
def runF : Nat → LS → LS
  | 0, S => S
  | n + 1, S => if stepsF S (pickF S) = true then runF n (nextF S) else nextF S
def ranF : Nat → LS → Nat
  | 0, _ => 0
  | n + 1, S => if stepsF S (pickF S) = true then ranF n (nextF S) + 1 else 0
def allDone (S : LS) : Bool := S.tasks.all fun t => t.wait == -1
def addF (S : LS) (acts : List (Int × Int)) : LS := if S.tasks.length < 64 then { S with tasks := S.tasks ++ [⟨acts, 0, 0, []⟩] } else S
def checkF (picks ticks draws : List Int) : Int :=
  if 65536 < picks.length ∨ 65536 < ticks.length ∨ 65536 < draws.length then 3
  else if (picks.any fun n => decide (n < 0)) = true ∨ (ticks.any fun n => decide (n < 0) || decide (2147483647 < n)) = true then 1 else 0
/-- What keeps the counters small. -/
structure Good (B : Nat) (S : LS) : Prop where
  tasks : S.tasks.length ≤ 64
  each : ∀ t ∈ S.tasks, t.told.length ≤ t.pos ∧ t.pos ≤ t.acts.length ∧ t.acts.length ≤ 8796093022208 ∧ -1 ≤ t.wait
  drawn : S.drawn ≤ S.count
  count : S.count ≤ B
  picks : S.picks.length ≤ 65536
  ticks : S.ticks.length ≤ 65536
  draws : S.draws.length ≤ 65536
  used : S.used ≤ S.picks.length
end Go.Proofs.Ytompgphlinjglaa.P
