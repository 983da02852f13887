/-
  No cell of these rows narrows 'for every input' (looked for: loops, veiled, ifaces, maps, wideKeys, modest, calm, conditions, laid).
  DERIVED. THE GIVEN ROWS OF THIS SEAT. 4 by the template 'for every input the law returns true; each argument reads behind the call as it read before'; 0 by the template 'total and deterministic' (their statements: YtdibolblgchpdaaTotals.lean).
  GIVEN WITH THE SEED: the statements are not yours to turn. If you find one false, say at which input.
  Laid BY PROGRAM, IN A SANDBOX (cutbox-rows.mjs): the forced cells as the released guide's own fill.sh prints them over the translation 6c11fcf5bc66f670… (all of the seat's roots in one cut). By AI agents, Wed Nov 11 2026. No macro, syntax, notation, axiom, sorry.
-/
import Derived.Test.YtdibolblgchpdaaChecked
import GoSem.Claim
import GoSem.ClaimJoined
import GoSem.ClaimMapViews
import Derived.JoinedTies
import Derived.KernelRfl
namespace Go.Proofs.Ytdibolblgchpdaa
/- THE CELL 'sum', in the pinned program and in every row, IS THE sha256 OF THE DUMP (.gsa) THAT YtdibolblgchpdaaProg.lean LOADS. Nothing in Lean hashes anything: it is a label: what it is worth is what the hold of that sum in a sandbox is worth. -/
noncomputable def Try.pinned : Pinned := { name := "ytdibolblgchpdaa", sum := "6c11fcf5bc66f670b40276a7df0ade9f97ff2f53caa78a8a1e345924406b9957", checked := Try.checked }
namespace Rows
def none {H : Type} : Left H := { results := [], args := [] }

/-- 'atriumlaw12.PickNext': WHATEVER THE INPUT: true; the input reads as it did. -/
def pickNextSpec : ChangeSpec := { name := "pickNext", fn := fun _ => fun
  | [d1, d2] => { results := [.lit (.bool true)], args := [d1, d2] }
  | _ => none }
def pickNextRow : OpenClaim := { program := "ytdibolblgchpdaa", sum := "6c11fcf5bc66f670b40276a7df0ade9f97ff2f53caa78a8a1e345924406b9957", func := "atrium/atriumlaw12.PickNext", spec := "pickNext", inPlace := ["internal/bytealg.abigen_runtime_cmpstring"], unfollowed := true, recurses := true, apart := false }
def PickNextSaid : Prop := pickNextRow.holds Try.pinned (OpenSpec.ofChange pickNextSpec)

/-- ITS FALSE NEIGHBOUR: 'it returns false'. Refute it at one input. -/
def pickNextWrong : ChangeSpec := { name := "pickNext", fn := fun _ => fun
  | [d1, d2] => { results := [.lit (.bool false)], args := [d1, d2] }
  | _ => none }
def PickNextWrongFalsely : Prop := pickNextRow.holds Try.pinned (OpenSpec.ofChange pickNextWrong)

/-- 'atriumlaw12.PickComesToRest': WHATEVER THE INPUT: true; the input reads as it did. -/
def pickComesToRestSpec : ChangeSpec := { name := "pickComesToRest", fn := fun _ => fun
  | [d1, d2, d3] => { results := [.lit (.bool true)], args := [d1, d2, d3] }
  | _ => none }
def pickComesToRestRow : OpenClaim := { program := "ytdibolblgchpdaa", sum := "6c11fcf5bc66f670b40276a7df0ade9f97ff2f53caa78a8a1e345924406b9957", func := "atrium/atriumlaw12.PickComesToRest", spec := "pickComesToRest", inPlace := ["internal/bytealg.abigen_runtime_cmpstring"], unfollowed := true, recurses := true, apart := false }
def PickComesToRestSaid : Prop := pickComesToRestRow.holds Try.pinned (OpenSpec.ofChange pickComesToRestSpec)

/-- ITS FALSE NEIGHBOUR: 'it returns false'. Refute it at one input. -/
def pickComesToRestWrong : ChangeSpec := { name := "pickComesToRest", fn := fun _ => fun
  | [d1, d2, d3] => { results := [.lit (.bool false)], args := [d1, d2, d3] }
  | _ => none }
def PickComesToRestWrongFalsely : Prop := pickComesToRestRow.holds Try.pinned (OpenSpec.ofChange pickComesToRestWrong)

/-- 'atriumlaw12.PickLevels': WHATEVER THE INPUT: true; the input reads as it did. -/
def pickLevelsSpec : ChangeSpec := { name := "pickLevels", fn := fun _ => fun
  | [d1, d2, d3, d4] => { results := [.lit (.bool true)], args := [d1, d2, d3, d4] }
  | _ => none }
def pickLevelsRow : OpenClaim := { program := "ytdibolblgchpdaa", sum := "6c11fcf5bc66f670b40276a7df0ade9f97ff2f53caa78a8a1e345924406b9957", func := "atrium/atriumlaw12.PickLevels", spec := "pickLevels", inPlace := ["internal/bytealg.abigen_runtime_cmpstring"], unfollowed := true, recurses := true, apart := false }
def PickLevelsSaid : Prop := pickLevelsRow.holds Try.pinned (OpenSpec.ofChange pickLevelsSpec)

/-- ITS FALSE NEIGHBOUR: 'it returns false'. Refute it at one input. -/
def pickLevelsWrong : ChangeSpec := { name := "pickLevels", fn := fun _ => fun
  | [d1, d2, d3, d4] => { results := [.lit (.bool false)], args := [d1, d2, d3, d4] }
  | _ => none }
def PickLevelsWrongFalsely : Prop := pickLevelsRow.holds Try.pinned (OpenSpec.ofChange pickLevelsWrong)

/-- 'atriumlaw12.PickSplits': WHATEVER THE INPUT: true; the input reads as it did. -/
def pickSplitsSpec : ChangeSpec := { name := "pickSplits", fn := fun _ => fun
  | [d1, d2] => { results := [.lit (.bool true)], args := [d1, d2] }
  | _ => none }
def pickSplitsRow : OpenClaim := { program := "ytdibolblgchpdaa", sum := "6c11fcf5bc66f670b40276a7df0ade9f97ff2f53caa78a8a1e345924406b9957", func := "atrium/atriumlaw12.PickSplits", spec := "pickSplits", inPlace := ["internal/bytealg.abigen_runtime_cmpstring"], unfollowed := true, recurses := true, apart := false }
def PickSplitsSaid : Prop := pickSplitsRow.holds Try.pinned (OpenSpec.ofChange pickSplitsSpec)

/-- ITS FALSE NEIGHBOUR: 'it returns false'. Refute it at one input. -/
def pickSplitsWrong : ChangeSpec := { name := "pickSplits", fn := fun _ => fun
  | [d1, d2] => { results := [.lit (.bool false)], args := [d1, d2] }
  | _ => none }
def PickSplitsWrongFalsely : Prop := pickSplitsRow.holds Try.pinned (OpenSpec.ofChange pickSplitsWrong)

/- THE SECOND FORM. 'bulk': how many values and letters a reading holds, each counted each time it is reached (what is shared counts as often as it is met; a slice's spare places count too). A statement '..UptoSaid' is the law's where the arguments, and the package variables that the reading takes, are together of bulk at most 1048576: NARROWER than '..Said'. Prove '..Said' where nothing that the law and all that it calls make is longer than what came in: it says more and counts as full. Else prove '..UptoSaid'. A law counts once. -/
mutual
def uptoBulk {H : Type} : DataW H → Nat
  | .lit (.string bytes) => bytes.length + 1
  | .lit _ => 1
  | .nil => 1
  | .ptr d => uptoBulk d + 1
  | .slice elems spare => uptoBulkAll elems + uptoBulkAll spare + 1
  | .agg parts => uptoBulkAll parts + 1
  | .iface _ d => uptoBulk d + 1
  | .map entries => uptoBulkEntries entries + 1
  | .held _ => 1
def uptoBulkAll {H : Type} : List (DataW H) → Nat
  | [] => 0
  | d :: r => uptoBulk d + uptoBulkAll r
def uptoBulkEntries {H : Type} : List (Lit × DataW H) → Nat
  | [] => 0
  | x :: r => uptoBulkEntry x + uptoBulkEntries r
def uptoBulkEntry {H : Type} : Lit × DataW H → Nat
  | (.string bytes, d) => bytes.length + uptoBulk d + 1
  | (_, d) => uptoBulk d + 1
 end
def uptoSmall : (H : Type) → List (DataW H) → Bool := fun _ ds => decide (uptoBulkAll ds ≤ 1048576)
def OpenSpec.upto (s : _root_.Go.ChangeSpec) : _root_.Go.OpenSpec := { _root_.Go.OpenSpec.ofChange s with cond := some uptoSmall }

/-- 'atriumlaw12.PickNext', WHERE WHAT IT READS IS OF BULK AT MOST 1048576: true; the input reads as it did. -/
def pickNextUptoRow : OpenClaim := { program := "ytdibolblgchpdaa", sum := "6c11fcf5bc66f670b40276a7df0ade9f97ff2f53caa78a8a1e345924406b9957", func := "atrium/atriumlaw12.PickNext", spec := "pickNext", inPlace := ["internal/bytealg.abigen_runtime_cmpstring"], unfollowed := true, recurses := true, apart := false, narrowed := true }
def PickNextUptoSaid : Prop := pickNextUptoRow.holds Try.pinned (OpenSpec.upto pickNextSpec)

/-- 'atriumlaw12.PickComesToRest', WHERE WHAT IT READS IS OF BULK AT MOST 1048576: true; the input reads as it did. -/
def pickComesToRestUptoRow : OpenClaim := { program := "ytdibolblgchpdaa", sum := "6c11fcf5bc66f670b40276a7df0ade9f97ff2f53caa78a8a1e345924406b9957", func := "atrium/atriumlaw12.PickComesToRest", spec := "pickComesToRest", inPlace := ["internal/bytealg.abigen_runtime_cmpstring"], unfollowed := true, recurses := true, apart := false, narrowed := true }
def PickComesToRestUptoSaid : Prop := pickComesToRestUptoRow.holds Try.pinned (OpenSpec.upto pickComesToRestSpec)

/-- 'atriumlaw12.PickLevels', WHERE WHAT IT READS IS OF BULK AT MOST 1048576: true; the input reads as it did. -/
def pickLevelsUptoRow : OpenClaim := { program := "ytdibolblgchpdaa", sum := "6c11fcf5bc66f670b40276a7df0ade9f97ff2f53caa78a8a1e345924406b9957", func := "atrium/atriumlaw12.PickLevels", spec := "pickLevels", inPlace := ["internal/bytealg.abigen_runtime_cmpstring"], unfollowed := true, recurses := true, apart := false, narrowed := true }
def PickLevelsUptoSaid : Prop := pickLevelsUptoRow.holds Try.pinned (OpenSpec.upto pickLevelsSpec)

/-- 'atriumlaw12.PickSplits', WHERE WHAT IT READS IS OF BULK AT MOST 1048576: true; the input reads as it did. -/
def pickSplitsUptoRow : OpenClaim := { program := "ytdibolblgchpdaa", sum := "6c11fcf5bc66f670b40276a7df0ade9f97ff2f53caa78a8a1e345924406b9957", func := "atrium/atriumlaw12.PickSplits", spec := "pickSplits", inPlace := ["internal/bytealg.abigen_runtime_cmpstring"], unfollowed := true, recurses := true, apart := false, narrowed := true }
def PickSplitsUptoSaid : Prop := pickSplitsUptoRow.holds Try.pinned (OpenSpec.upto pickSplitsSpec)

end Rows
end Go.Proofs.Ytdibolblgchpdaa
