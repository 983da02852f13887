/-
  No cell of these rows narrows 'for every input' (looked for: loops, veiled, ifaces, maps, wideKeys, modest, calm, conditions, laid).
  DERIVED. THE GIVEN ROWS OF THIS SEAT. 6 by the template 'for every input the law returns true; each argument reads behind the call as it read before'; 0 by the template 'total and deterministic' (their statements: YtompgphlinjglaaTotals.lean).
  GIVEN WITH THE SEED: the statements are not yours to turn. If you find one false, say at which input.
  Laid BY PROGRAM, IN A SANDBOX (cutbox-rows.mjs): the forced cells as the released guide's own fill.sh prints them over the translation 60af736b3f979888… (all of the seat's roots in one cut). By AI agents, Wed Nov 11 2026. No macro, syntax, notation, axiom, sorry.
-/
import Derived.Test.YtompgphlinjglaaChecked
import GoSem.Claim
import GoSem.ClaimJoined
import GoSem.ClaimMapViews
import Derived.JoinedTies
import Derived.KernelRfl
namespace Go.Proofs.Ytompgphlinjglaa
/- THE CELL 'sum', in the pinned program and in every row, IS THE sha256 OF THE DUMP (.gsa) THAT YtompgphlinjglaaProg.lean LOADS. Nothing in Lean hashes anything: it is a label: what it is worth is what the hold of that sum in a sandbox is worth. -/
noncomputable def Try.pinned : Pinned := { name := "ytompgphlinjglaa", sum := "60af736b3f979888a1cb7e8df83a5551ab186e2f78e50af806bb163f0beb2793", checked := Try.checked }
namespace Rows
def none {H : Type} : Left H := { results := [], args := [] }

/-- 'atriumlaw03.SchedWaits': WHATEVER THE INPUT: true; the input reads as it did. -/
def schedWaitsSpec : ChangeSpec := { name := "schedWaits", fn := fun _ => fun
  | [d1, d2, d3] => { results := [.lit (.bool true)], args := [d1, d2, d3] }
  | _ => none }
def schedWaitsRow : OpenClaim := { program := "ytompgphlinjglaa", sum := "60af736b3f979888a1cb7e8df83a5551ab186e2f78e50af806bb163f0beb2793", func := "atrium/atriumlaw03.SchedWaits", spec := "schedWaits", unfollowed := true, recurses := true, apart := false }
def SchedWaitsSaid : Prop := schedWaitsRow.holds Try.pinned (OpenSpec.ofChange schedWaitsSpec)

/-- ITS FALSE NEIGHBOUR: 'it returns false'. Refute it at one input. -/
def schedWaitsWrong : ChangeSpec := { name := "schedWaits", fn := fun _ => fun
  | [d1, d2, d3] => { results := [.lit (.bool false)], args := [d1, d2, d3] }
  | _ => none }
def SchedWaitsWrongFalsely : Prop := schedWaitsRow.holds Try.pinned (OpenSpec.ofChange schedWaitsWrong)

/-- 'atriumlaw03.SchedDone': WHATEVER THE INPUT: true; the input reads as it did. -/
def schedDoneSpec : ChangeSpec := { name := "schedDone", fn := fun _ => fun
  | [d1, d2] => { results := [.lit (.bool true)], args := [d1, d2] }
  | _ => none }
def schedDoneRow : OpenClaim := { program := "ytompgphlinjglaa", sum := "60af736b3f979888a1cb7e8df83a5551ab186e2f78e50af806bb163f0beb2793", func := "atrium/atriumlaw03.SchedDone", spec := "schedDone", unfollowed := true, recurses := true, apart := false }
def SchedDoneSaid : Prop := schedDoneRow.holds Try.pinned (OpenSpec.ofChange schedDoneSpec)

/-- ITS FALSE NEIGHBOUR: 'it returns false'. Refute it at one input. -/
def schedDoneWrong : ChangeSpec := { name := "schedDone", fn := fun _ => fun
  | [d1, d2] => { results := [.lit (.bool false)], args := [d1, d2] }
  | _ => none }
def SchedDoneWrongFalsely : Prop := schedDoneRow.holds Try.pinned (OpenSpec.ofChange schedDoneWrong)

/-- 'atriumlaw03.SchedTurns': WHATEVER THE INPUT: true; the input reads as it did. -/
def schedTurnsSpec : ChangeSpec := { name := "schedTurns", fn := fun _ => fun
  | [d1, d2, d3] => { results := [.lit (.bool true)], args := [d1, d2, d3] }
  | _ => none }
def schedTurnsRow : OpenClaim := { program := "ytompgphlinjglaa", sum := "60af736b3f979888a1cb7e8df83a5551ab186e2f78e50af806bb163f0beb2793", func := "atrium/atriumlaw03.SchedTurns", spec := "schedTurns", unfollowed := true, recurses := true, apart := false }
def SchedTurnsSaid : Prop := schedTurnsRow.holds Try.pinned (OpenSpec.ofChange schedTurnsSpec)

/-- ITS FALSE NEIGHBOUR: 'it returns false'. Refute it at one input. -/
def schedTurnsWrong : ChangeSpec := { name := "schedTurns", fn := fun _ => fun
  | [d1, d2, d3] => { results := [.lit (.bool false)], args := [d1, d2, d3] }
  | _ => none }
def SchedTurnsWrongFalsely : Prop := schedTurnsRow.holds Try.pinned (OpenSpec.ofChange schedTurnsWrong)

/-- 'atriumlaw03.SchedPlays': WHATEVER THE INPUT: true; the input reads as it did. -/
def schedPlaysSpec : ChangeSpec := { name := "schedPlays", fn := fun _ => fun
  | [d1, d2, d3] => { results := [.lit (.bool true)], args := [d1, d2, d3] }
  | _ => none }
def schedPlaysRow : OpenClaim := { program := "ytompgphlinjglaa", sum := "60af736b3f979888a1cb7e8df83a5551ab186e2f78e50af806bb163f0beb2793", func := "atrium/atriumlaw03.SchedPlays", spec := "schedPlays", unfollowed := true, recurses := true, apart := false }
def SchedPlaysSaid : Prop := schedPlaysRow.holds Try.pinned (OpenSpec.ofChange schedPlaysSpec)

/-- ITS FALSE NEIGHBOUR: 'it returns false'. Refute it at one input. -/
def schedPlaysWrong : ChangeSpec := { name := "schedPlays", fn := fun _ => fun
  | [d1, d2, d3] => { results := [.lit (.bool false)], args := [d1, d2, d3] }
  | _ => none }
def SchedPlaysWrongFalsely : Prop := schedPlaysRow.holds Try.pinned (OpenSpec.ofChange schedPlaysWrong)

/-- 'atriumlaw03.SchedAgain': WHATEVER THE INPUT: true; the input reads as it did. -/
def schedAgainSpec : ChangeSpec := { name := "schedAgain", fn := fun _ => fun
  | [d1, d2, d3] => { results := [.lit (.bool true)], args := [d1, d2, d3] }
  | _ => none }
def schedAgainRow : OpenClaim := { program := "ytompgphlinjglaa", sum := "60af736b3f979888a1cb7e8df83a5551ab186e2f78e50af806bb163f0beb2793", func := "atrium/atriumlaw03.SchedAgain", spec := "schedAgain", unfollowed := true, recurses := true, apart := false }
def SchedAgainSaid : Prop := schedAgainRow.holds Try.pinned (OpenSpec.ofChange schedAgainSpec)

/-- ITS FALSE NEIGHBOUR: 'it returns false'. Refute it at one input. -/
def schedAgainWrong : ChangeSpec := { name := "schedAgain", fn := fun _ => fun
  | [d1, d2, d3] => { results := [.lit (.bool false)], args := [d1, d2, d3] }
  | _ => none }
def SchedAgainWrongFalsely : Prop := schedAgainRow.holds Try.pinned (OpenSpec.ofChange schedAgainWrong)

/-- 'atriumlaw03.SchedNobody': WHATEVER THE INPUT: true; the input reads as it did. -/
def schedNobodySpec : ChangeSpec := { name := "schedNobody", fn := fun _ => fun
  | [d1, d2] => { results := [.lit (.bool true)], args := [d1, d2] }
  | _ => none }
def schedNobodyRow : OpenClaim := { program := "ytompgphlinjglaa", sum := "60af736b3f979888a1cb7e8df83a5551ab186e2f78e50af806bb163f0beb2793", func := "atrium/atriumlaw03.SchedNobody", spec := "schedNobody", unfollowed := true, recurses := true, apart := false }
def SchedNobodySaid : Prop := schedNobodyRow.holds Try.pinned (OpenSpec.ofChange schedNobodySpec)

/-- ITS FALSE NEIGHBOUR: 'it returns false'. Refute it at one input. -/
def schedNobodyWrong : ChangeSpec := { name := "schedNobody", fn := fun _ => fun
  | [d1, d2] => { results := [.lit (.bool false)], args := [d1, d2] }
  | _ => none }
def SchedNobodyWrongFalsely : Prop := schedNobodyRow.holds Try.pinned (OpenSpec.ofChange schedNobodyWrong)

/- THE SECOND FORM. 'bulk': how many values and letters a reading holds, each counted each time it is reached (what is shared counts as often as it is met; a slice's spare places count too). A statement '..UptoSaid' is the law's where the arguments, and the package variables that the reading takes, are together of bulk at most 1048576: NARROWER than '..Said'. Prove '..Said' where nothing that the law and all that it calls make is longer than what came in: it says more and counts as full. Else prove '..UptoSaid'. A law counts once. -/
mutual
def uptoBulk {H : Type} : DataW H → Nat
  | .lit (.string bytes) => bytes.length + 1
  | .lit _ => 1
  | .nil => 1
  | .ptr d => uptoBulk d + 1
  | .slice elems spare => uptoBulkAll elems + uptoBulkAll spare + 1
  | .agg parts => uptoBulkAll parts + 1
  | .iface _ d => uptoBulk d + 1
  | .map entries => uptoBulkEntries entries + 1
  | .held _ => 1
def uptoBulkAll {H : Type} : List (DataW H) → Nat
  | [] => 0
  | d :: r => uptoBulk d + uptoBulkAll r
def uptoBulkEntries {H : Type} : List (Lit × DataW H) → Nat
  | [] => 0
  | x :: r => uptoBulkEntry x + uptoBulkEntries r
def uptoBulkEntry {H : Type} : Lit × DataW H → Nat
  | (.string bytes, d) => bytes.length + uptoBulk d + 1
  | (_, d) => uptoBulk d + 1
 end
def uptoSmall : (H : Type) → List (DataW H) → Bool := fun _ ds => decide (uptoBulkAll ds ≤ 1048576)
def OpenSpec.upto (s : _root_.Go.ChangeSpec) : _root_.Go.OpenSpec := { _root_.Go.OpenSpec.ofChange s with cond := some uptoSmall }

/-- 'atriumlaw03.SchedWaits', WHERE WHAT IT READS IS OF BULK AT MOST 1048576: true; the input reads as it did. -/
def schedWaitsUptoRow : OpenClaim := { program := "ytompgphlinjglaa", sum := "60af736b3f979888a1cb7e8df83a5551ab186e2f78e50af806bb163f0beb2793", func := "atrium/atriumlaw03.SchedWaits", spec := "schedWaits", unfollowed := true, recurses := true, apart := false, narrowed := true }
def SchedWaitsUptoSaid : Prop := schedWaitsUptoRow.holds Try.pinned (OpenSpec.upto schedWaitsSpec)

/-- 'atriumlaw03.SchedDone', WHERE WHAT IT READS IS OF BULK AT MOST 1048576: true; the input reads as it did. -/
def schedDoneUptoRow : OpenClaim := { program := "ytompgphlinjglaa", sum := "60af736b3f979888a1cb7e8df83a5551ab186e2f78e50af806bb163f0beb2793", func := "atrium/atriumlaw03.SchedDone", spec := "schedDone", unfollowed := true, recurses := true, apart := false, narrowed := true }
def SchedDoneUptoSaid : Prop := schedDoneUptoRow.holds Try.pinned (OpenSpec.upto schedDoneSpec)

/-- 'atriumlaw03.SchedTurns', WHERE WHAT IT READS IS OF BULK AT MOST 1048576: true; the input reads as it did. -/
def schedTurnsUptoRow : OpenClaim := { program := "ytompgphlinjglaa", sum := "60af736b3f979888a1cb7e8df83a5551ab186e2f78e50af806bb163f0beb2793", func := "atrium/atriumlaw03.SchedTurns", spec := "schedTurns", unfollowed := true, recurses := true, apart := false, narrowed := true }
def SchedTurnsUptoSaid : Prop := schedTurnsUptoRow.holds Try.pinned (OpenSpec.upto schedTurnsSpec)

/-- 'atriumlaw03.SchedPlays', WHERE WHAT IT READS IS OF BULK AT MOST 1048576: true; the input reads as it did. -/
def schedPlaysUptoRow : OpenClaim := { program := "ytompgphlinjglaa", sum := "60af736b3f979888a1cb7e8df83a5551ab186e2f78e50af806bb163f0beb2793", func := "atrium/atriumlaw03.SchedPlays", spec := "schedPlays", unfollowed := true, recurses := true, apart := false, narrowed := true }
def SchedPlaysUptoSaid : Prop := schedPlaysUptoRow.holds Try.pinned (OpenSpec.upto schedPlaysSpec)

/-- 'atriumlaw03.SchedAgain', WHERE WHAT IT READS IS OF BULK AT MOST 1048576: true; the input reads as it did. -/
def schedAgainUptoRow : OpenClaim := { program := "ytompgphlinjglaa", sum := "60af736b3f979888a1cb7e8df83a5551ab186e2f78e50af806bb163f0beb2793", func := "atrium/atriumlaw03.SchedAgain", spec := "schedAgain", unfollowed := true, recurses := true, apart := false, narrowed := true }
def SchedAgainUptoSaid : Prop := schedAgainUptoRow.holds Try.pinned (OpenSpec.upto schedAgainSpec)

/-- 'atriumlaw03.SchedNobody', WHERE WHAT IT READS IS OF BULK AT MOST 1048576: true; the input reads as it did. -/
def schedNobodyUptoRow : OpenClaim := { program := "ytompgphlinjglaa", sum := "60af736b3f979888a1cb7e8df83a5551ab186e2f78e50af806bb163f0beb2793", func := "atrium/atriumlaw03.SchedNobody", spec := "schedNobody", unfollowed := true, recurses := true, apart := false, narrowed := true }
def SchedNobodyUptoSaid : Prop := schedNobodyUptoRow.holds Try.pinned (OpenSpec.upto schedNobodySpec)

end Rows
end Go.Proofs.Ytompgphlinjglaa
