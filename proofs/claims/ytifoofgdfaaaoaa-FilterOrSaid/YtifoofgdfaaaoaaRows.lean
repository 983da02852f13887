/-
  No cell of these rows narrows 'for every input' (looked for: loops, veiled, ifaces, maps, wideKeys, modest, calm, conditions, laid).
  DERIVED. THE GIVEN ROWS OF THIS SEAT. 4 by the template 'for every input the law returns true; each argument reads behind the call as it read before'; 0 by the template 'total and deterministic' (their statements: YtifoofgdfaaaoaaTotals.lean).
  GIVEN WITH THE SEED: the statements are not yours to turn. If you find one false, say at which input.
  Laid BY PROGRAM, IN A SANDBOX (cutbox-rows.mjs): the forced cells as the released guide's own fill.sh prints them over the translation d14a3e6cf381f203… (all of the seat's roots in one cut). By AI agents, Wed Nov 11 2026. No macro, syntax, notation, axiom, sorry.
-/
import Derived.Test.YtifoofgdfaaaoaaChecked
import GoSem.Claim
import GoSem.ClaimJoined
import GoSem.ClaimMapViews
import Derived.JoinedTies
import Derived.KernelRfl
namespace Go.Proofs.Ytifoofgdfaaaoaa
/- THE CELL 'sum', in the pinned program and in every row, IS THE sha256 OF THE DUMP (.gsa) THAT YtifoofgdfaaaoaaProg.lean LOADS. Nothing in Lean hashes anything: it is a label: what it is worth is what the hold of that sum in a sandbox is worth. -/
noncomputable def Try.pinned : Pinned := { name := "ytifoofgdfaaaoaa", sum := "d14a3e6cf381f2039d1f9ddf4b907f045ec0b1173cb90c92f6b96543acb175b6", checked := Try.checked }
namespace Rows
def none {H : Type} : Left H := { results := [], args := [] }

/-- 'atriumlaw07.FilterBuilds': WHATEVER THE INPUT: true; the input reads as it did. -/
def filterBuildsSpec : ChangeSpec := { name := "filterBuilds", fn := fun _ => fun
  | [d1, d2, d3] => { results := [.lit (.bool true)], args := [d1, d2, d3] }
  | _ => none }
def filterBuildsRow : OpenClaim := { program := "ytifoofgdfaaaoaa", sum := "d14a3e6cf381f2039d1f9ddf4b907f045ec0b1173cb90c92f6b96543acb175b6", func := "atrium/atriumlaw07.FilterBuilds", spec := "filterBuilds", unfollowed := true, recurses := true, apart := false }
def FilterBuildsSaid : Prop := filterBuildsRow.holds Try.pinned (OpenSpec.ofChange filterBuildsSpec)

/-- ITS FALSE NEIGHBOUR: 'it returns false'. Refute it at one input. -/
def filterBuildsWrong : ChangeSpec := { name := "filterBuilds", fn := fun _ => fun
  | [d1, d2, d3] => { results := [.lit (.bool false)], args := [d1, d2, d3] }
  | _ => none }
def FilterBuildsWrongFalsely : Prop := filterBuildsRow.holds Try.pinned (OpenSpec.ofChange filterBuildsWrong)

/-- 'atriumlaw07.FilterAsks': WHATEVER THE INPUT: true; the input reads as it did. -/
def filterAsksSpec : ChangeSpec := { name := "filterAsks", fn := fun _ => fun
  | [d1, d2, d3] => { results := [.lit (.bool true)], args := [d1, d2, d3] }
  | _ => none }
def filterAsksRow : OpenClaim := { program := "ytifoofgdfaaaoaa", sum := "d14a3e6cf381f2039d1f9ddf4b907f045ec0b1173cb90c92f6b96543acb175b6", func := "atrium/atriumlaw07.FilterAsks", spec := "filterAsks", unfollowed := true, recurses := true, apart := false }
def FilterAsksSaid : Prop := filterAsksRow.holds Try.pinned (OpenSpec.ofChange filterAsksSpec)

/-- ITS FALSE NEIGHBOUR: 'it returns false'. Refute it at one input. -/
def filterAsksWrong : ChangeSpec := { name := "filterAsks", fn := fun _ => fun
  | [d1, d2, d3] => { results := [.lit (.bool false)], args := [d1, d2, d3] }
  | _ => none }
def FilterAsksWrongFalsely : Prop := filterAsksRow.holds Try.pinned (OpenSpec.ofChange filterAsksWrong)

/-- 'atriumlaw07.FilterNever': WHATEVER THE INPUT: true; the input reads as it did. -/
def filterNeverSpec : ChangeSpec := { name := "filterNever", fn := fun _ => fun
  | [d1, d2, d3] => { results := [.lit (.bool true)], args := [d1, d2, d3] }
  | _ => none }
def filterNeverRow : OpenClaim := { program := "ytifoofgdfaaaoaa", sum := "d14a3e6cf381f2039d1f9ddf4b907f045ec0b1173cb90c92f6b96543acb175b6", func := "atrium/atriumlaw07.FilterNever", spec := "filterNever", unfollowed := true, recurses := true, apart := false }
def FilterNeverSaid : Prop := filterNeverRow.holds Try.pinned (OpenSpec.ofChange filterNeverSpec)

/-- ITS FALSE NEIGHBOUR: 'it returns false'. Refute it at one input. -/
def filterNeverWrong : ChangeSpec := { name := "filterNever", fn := fun _ => fun
  | [d1, d2, d3] => { results := [.lit (.bool false)], args := [d1, d2, d3] }
  | _ => none }
def FilterNeverWrongFalsely : Prop := filterNeverRow.holds Try.pinned (OpenSpec.ofChange filterNeverWrong)

/-- 'atriumlaw07.FilterOr': WHATEVER THE INPUT: true; the input reads as it did. -/
def filterOrSpec : ChangeSpec := { name := "filterOr", fn := fun _ => fun
  | [d1, d2, d3, d4] => { results := [.lit (.bool true)], args := [d1, d2, d3, d4] }
  | _ => none }
def filterOrRow : OpenClaim := { program := "ytifoofgdfaaaoaa", sum := "d14a3e6cf381f2039d1f9ddf4b907f045ec0b1173cb90c92f6b96543acb175b6", func := "atrium/atriumlaw07.FilterOr", spec := "filterOr", unfollowed := true, recurses := true, apart := false }
def FilterOrSaid : Prop := filterOrRow.holds Try.pinned (OpenSpec.ofChange filterOrSpec)

/-- ITS FALSE NEIGHBOUR: 'it returns false'. Refute it at one input. -/
def filterOrWrong : ChangeSpec := { name := "filterOr", fn := fun _ => fun
  | [d1, d2, d3, d4] => { results := [.lit (.bool false)], args := [d1, d2, d3, d4] }
  | _ => none }
def FilterOrWrongFalsely : Prop := filterOrRow.holds Try.pinned (OpenSpec.ofChange filterOrWrong)

/- THE SECOND FORM. 'bulk': how many values and letters a reading holds, each counted each time it is reached (what is shared counts as often as it is met; a slice's spare places count too). A statement '..UptoSaid' is the law's where the arguments, and the package variables that the reading takes, are together of bulk at most 1048576: NARROWER than '..Said'. Prove '..Said' where nothing that the law and all that it calls make is longer than what came in: it says more and counts as full. Else prove '..UptoSaid'. A law counts once. -/
mutual
def uptoBulk {H : Type} : DataW H → Nat
  | .lit (.string bytes) => bytes.length + 1
  | .lit _ => 1
  | .nil => 1
  | .ptr d => uptoBulk d + 1
  | .slice elems spare => uptoBulkAll elems + uptoBulkAll spare + 1
  | .agg parts => uptoBulkAll parts + 1
  | .iface _ d => uptoBulk d + 1
  | .map entries => uptoBulkEntries entries + 1
  | .held _ => 1
def uptoBulkAll {H : Type} : List (DataW H) → Nat
  | [] => 0
  | d :: r => uptoBulk d + uptoBulkAll r
def uptoBulkEntries {H : Type} : List (Lit × DataW H) → Nat
  | [] => 0
  | x :: r => uptoBulkEntry x + uptoBulkEntries r
def uptoBulkEntry {H : Type} : Lit × DataW H → Nat
  | (.string bytes, d) => bytes.length + uptoBulk d + 1
  | (_, d) => uptoBulk d + 1
 end
def uptoSmall : (H : Type) → List (DataW H) → Bool := fun _ ds => decide (uptoBulkAll ds ≤ 1048576)
def OpenSpec.upto (s : _root_.Go.ChangeSpec) : _root_.Go.OpenSpec := { _root_.Go.OpenSpec.ofChange s with cond := some uptoSmall }

/-- 'atriumlaw07.FilterBuilds', WHERE WHAT IT READS IS OF BULK AT MOST 1048576: true; the input reads as it did. -/
def filterBuildsUptoRow : OpenClaim := { program := "ytifoofgdfaaaoaa", sum := "d14a3e6cf381f2039d1f9ddf4b907f045ec0b1173cb90c92f6b96543acb175b6", func := "atrium/atriumlaw07.FilterBuilds", spec := "filterBuilds", unfollowed := true, recurses := true, apart := false, narrowed := true }
def FilterBuildsUptoSaid : Prop := filterBuildsUptoRow.holds Try.pinned (OpenSpec.upto filterBuildsSpec)

/-- 'atriumlaw07.FilterAsks', WHERE WHAT IT READS IS OF BULK AT MOST 1048576: true; the input reads as it did. -/
def filterAsksUptoRow : OpenClaim := { program := "ytifoofgdfaaaoaa", sum := "d14a3e6cf381f2039d1f9ddf4b907f045ec0b1173cb90c92f6b96543acb175b6", func := "atrium/atriumlaw07.FilterAsks", spec := "filterAsks", unfollowed := true, recurses := true, apart := false, narrowed := true }
def FilterAsksUptoSaid : Prop := filterAsksUptoRow.holds Try.pinned (OpenSpec.upto filterAsksSpec)

/-- 'atriumlaw07.FilterNever', WHERE WHAT IT READS IS OF BULK AT MOST 1048576: true; the input reads as it did. -/
def filterNeverUptoRow : OpenClaim := { program := "ytifoofgdfaaaoaa", sum := "d14a3e6cf381f2039d1f9ddf4b907f045ec0b1173cb90c92f6b96543acb175b6", func := "atrium/atriumlaw07.FilterNever", spec := "filterNever", unfollowed := true, recurses := true, apart := false, narrowed := true }
def FilterNeverUptoSaid : Prop := filterNeverUptoRow.holds Try.pinned (OpenSpec.upto filterNeverSpec)

/-- 'atriumlaw07.FilterOr', WHERE WHAT IT READS IS OF BULK AT MOST 1048576: true; the input reads as it did. -/
def filterOrUptoRow : OpenClaim := { program := "ytifoofgdfaaaoaa", sum := "d14a3e6cf381f2039d1f9ddf4b907f045ec0b1173cb90c92f6b96543acb175b6", func := "atrium/atriumlaw07.FilterOr", spec := "filterOr", unfollowed := true, recurses := true, apart := false, narrowed := true }
def FilterOrUptoSaid : Prop := filterOrUptoRow.holds Try.pinned (OpenSpec.upto filterOrSpec)

end Rows
end Go.Proofs.Ytifoofgdfaaaoaa
