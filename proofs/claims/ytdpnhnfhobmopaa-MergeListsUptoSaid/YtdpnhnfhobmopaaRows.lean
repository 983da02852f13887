/-
  No cell of these rows narrows 'for every input' (looked for: loops, veiled, ifaces, maps, wideKeys, modest, calm, conditions, laid).
  DERIVED. THE GIVEN ROWS OF THIS SEAT. 8 by the template 'for every input the law returns true; each argument reads behind the call as it read before'; 0 by the template 'total and deterministic' (their statements: YtdpnhnfhobmopaaTotals.lean).
  GIVEN WITH THE SEED: the statements are not yours to turn. If you find one false, say at which input.
  Laid BY PROGRAM, IN A SANDBOX (cutbox-rows.mjs): the forced cells as the released guide's own fill.sh prints them over the translation ea166af957ff0e08… (all of the seat's roots in one cut). By AI agents, Wed Nov 11 2026. No macro, syntax, notation, axiom, sorry.
-/
import Derived.Test.YtdpnhnfhobmopaaChecked
import GoSem.Claim
import GoSem.ClaimJoined
import GoSem.ClaimMapViews
import Derived.JoinedTies
import Derived.KernelRfl
namespace Go.Proofs.Ytdpnhnfhobmopaa
/- THE CELL 'sum', in the pinned program and in every row, IS THE sha256 OF THE DUMP (.gsa) THAT YtdpnhnfhobmopaaProg.lean LOADS. Nothing in Lean hashes anything: it is a label: what it is worth is what the hold of that sum in a sandbox is worth. -/
noncomputable def Try.pinned : Pinned := { name := "ytdpnhnfhobmopaa", sum := "ea166af957ff0e08875c1d79eca0afac7127ae9946863bebe0288294cff78176", checked := Try.checked }
namespace Rows
def none {H : Type} : Left H := { results := [], args := [] }

/-- 'atriumlaw10.MergeOrders': WHATEVER THE INPUT: true; the input reads as it did. -/
def mergeOrdersSpec : ChangeSpec := { name := "mergeOrders", fn := fun _ => fun
  | [d1, d2, d3] => { results := [.lit (.bool true)], args := [d1, d2, d3] }
  | _ => none }
def mergeOrdersRow : OpenClaim := { program := "ytdpnhnfhobmopaa", sum := "ea166af957ff0e08875c1d79eca0afac7127ae9946863bebe0288294cff78176", func := "atrium/atriumlaw10.MergeOrders", spec := "mergeOrders", inPlace := ["internal/bytealg.abigen_runtime_cmpstring"], unfollowed := true, recurses := true, apart := false }
def MergeOrdersSaid : Prop := mergeOrdersRow.holds Try.pinned (OpenSpec.ofChange mergeOrdersSpec)

/-- ITS FALSE NEIGHBOUR: 'it returns false'. Refute it at one input. -/
def mergeOrdersWrong : ChangeSpec := { name := "mergeOrders", fn := fun _ => fun
  | [d1, d2, d3] => { results := [.lit (.bool false)], args := [d1, d2, d3] }
  | _ => none }
def MergeOrdersWrongFalsely : Prop := mergeOrdersRow.holds Try.pinned (OpenSpec.ofChange mergeOrdersWrong)

/-- 'atriumlaw10.MergeLists': WHATEVER THE INPUT: true; the input reads as it did. -/
def mergeListsSpec : ChangeSpec := { name := "mergeLists", fn := fun _ => fun
  | [d1, d2] => { results := [.lit (.bool true)], args := [d1, d2] }
  | _ => none }
def mergeListsRow : OpenClaim := { program := "ytdpnhnfhobmopaa", sum := "ea166af957ff0e08875c1d79eca0afac7127ae9946863bebe0288294cff78176", func := "atrium/atriumlaw10.MergeLists", spec := "mergeLists", inPlace := ["internal/bytealg.abigen_runtime_cmpstring"], unfollowed := true, recurses := true, apart := false }
def MergeListsSaid : Prop := mergeListsRow.holds Try.pinned (OpenSpec.ofChange mergeListsSpec)

/-- ITS FALSE NEIGHBOUR: 'it returns false'. Refute it at one input. -/
def mergeListsWrong : ChangeSpec := { name := "mergeLists", fn := fun _ => fun
  | [d1, d2] => { results := [.lit (.bool false)], args := [d1, d2] }
  | _ => none }
def MergeListsWrongFalsely : Prop := mergeListsRow.holds Try.pinned (OpenSpec.ofChange mergeListsWrong)

/-- 'atriumlaw10.MergeKinds': WHATEVER THE INPUT: true; the input reads as it did. -/
def mergeKindsSpec : ChangeSpec := { name := "mergeKinds", fn := fun _ => fun
  | [d1, d2, d3] => { results := [.lit (.bool true)], args := [d1, d2, d3] }
  | _ => none }
def mergeKindsRow : OpenClaim := { program := "ytdpnhnfhobmopaa", sum := "ea166af957ff0e08875c1d79eca0afac7127ae9946863bebe0288294cff78176", func := "atrium/atriumlaw10.MergeKinds", spec := "mergeKinds", inPlace := ["internal/bytealg.abigen_runtime_cmpstring"], unfollowed := true, recurses := true, apart := false }
def MergeKindsSaid : Prop := mergeKindsRow.holds Try.pinned (OpenSpec.ofChange mergeKindsSpec)

/-- ITS FALSE NEIGHBOUR: 'it returns false'. Refute it at one input. -/
def mergeKindsWrong : ChangeSpec := { name := "mergeKinds", fn := fun _ => fun
  | [d1, d2, d3] => { results := [.lit (.bool false)], args := [d1, d2, d3] }
  | _ => none }
def MergeKindsWrongFalsely : Prop := mergeKindsRow.holds Try.pinned (OpenSpec.ofChange mergeKindsWrong)

/-- 'atriumlaw10.MergeVisible': WHATEVER THE INPUT: true; the input reads as it did. -/
def mergeVisibleSpec : ChangeSpec := { name := "mergeVisible", fn := fun _ => fun
  | [d1, d2] => { results := [.lit (.bool true)], args := [d1, d2] }
  | _ => none }
def mergeVisibleRow : OpenClaim := { program := "ytdpnhnfhobmopaa", sum := "ea166af957ff0e08875c1d79eca0afac7127ae9946863bebe0288294cff78176", func := "atrium/atriumlaw10.MergeVisible", spec := "mergeVisible", inPlace := ["internal/bytealg.abigen_runtime_cmpstring"], unfollowed := true, recurses := true, apart := false }
def MergeVisibleSaid : Prop := mergeVisibleRow.holds Try.pinned (OpenSpec.ofChange mergeVisibleSpec)

/-- ITS FALSE NEIGHBOUR: 'it returns false'. Refute it at one input. -/
def mergeVisibleWrong : ChangeSpec := { name := "mergeVisible", fn := fun _ => fun
  | [d1, d2] => { results := [.lit (.bool false)], args := [d1, d2] }
  | _ => none }
def MergeVisibleWrongFalsely : Prop := mergeVisibleRow.holds Try.pinned (OpenSpec.ofChange mergeVisibleWrong)

/-- 'atriumlaw10.MergeDrops': WHATEVER THE INPUT: true; the input reads as it did. -/
def mergeDropsSpec : ChangeSpec := { name := "mergeDrops", fn := fun _ => fun
  | [d1, d2, d3] => { results := [.lit (.bool true)], args := [d1, d2, d3] }
  | _ => none }
def mergeDropsRow : OpenClaim := { program := "ytdpnhnfhobmopaa", sum := "ea166af957ff0e08875c1d79eca0afac7127ae9946863bebe0288294cff78176", func := "atrium/atriumlaw10.MergeDrops", spec := "mergeDrops", inPlace := ["internal/bytealg.abigen_runtime_cmpstring"], unfollowed := true, recurses := true, apart := false }
def MergeDropsSaid : Prop := mergeDropsRow.holds Try.pinned (OpenSpec.ofChange mergeDropsSpec)

/-- ITS FALSE NEIGHBOUR: 'it returns false'. Refute it at one input. -/
def mergeDropsWrong : ChangeSpec := { name := "mergeDrops", fn := fun _ => fun
  | [d1, d2, d3] => { results := [.lit (.bool false)], args := [d1, d2, d3] }
  | _ => none }
def MergeDropsWrongFalsely : Prop := mergeDropsRow.holds Try.pinned (OpenSpec.ofChange mergeDropsWrong)

/-- 'atriumlaw10.MergeUnseen': WHATEVER THE INPUT: true; the input reads as it did. -/
def mergeUnseenSpec : ChangeSpec := { name := "mergeUnseen", fn := fun _ => fun
  | [d1, d2, d3] => { results := [.lit (.bool true)], args := [d1, d2, d3] }
  | _ => none }
def mergeUnseenRow : OpenClaim := { program := "ytdpnhnfhobmopaa", sum := "ea166af957ff0e08875c1d79eca0afac7127ae9946863bebe0288294cff78176", func := "atrium/atriumlaw10.MergeUnseen", spec := "mergeUnseen", inPlace := ["internal/bytealg.abigen_runtime_cmpstring"], unfollowed := true, recurses := true, apart := false }
def MergeUnseenSaid : Prop := mergeUnseenRow.holds Try.pinned (OpenSpec.ofChange mergeUnseenSpec)

/-- ITS FALSE NEIGHBOUR: 'it returns false'. Refute it at one input. -/
def mergeUnseenWrong : ChangeSpec := { name := "mergeUnseen", fn := fun _ => fun
  | [d1, d2, d3] => { results := [.lit (.bool false)], args := [d1, d2, d3] }
  | _ => none }
def MergeUnseenWrongFalsely : Prop := mergeUnseenRow.holds Try.pinned (OpenSpec.ofChange mergeUnseenWrong)

/-- 'atriumlaw10.MergeCuts': WHATEVER THE INPUT: true; the input reads as it did. -/
def mergeCutsSpec : ChangeSpec := { name := "mergeCuts", fn := fun _ => fun
  | [d1, d2] => { results := [.lit (.bool true)], args := [d1, d2] }
  | _ => none }
def mergeCutsRow : OpenClaim := { program := "ytdpnhnfhobmopaa", sum := "ea166af957ff0e08875c1d79eca0afac7127ae9946863bebe0288294cff78176", func := "atrium/atriumlaw10.MergeCuts", spec := "mergeCuts", inPlace := ["internal/bytealg.abigen_runtime_cmpstring"], unfollowed := true, recurses := true, apart := false }
def MergeCutsSaid : Prop := mergeCutsRow.holds Try.pinned (OpenSpec.ofChange mergeCutsSpec)

/-- ITS FALSE NEIGHBOUR: 'it returns false'. Refute it at one input. -/
def mergeCutsWrong : ChangeSpec := { name := "mergeCuts", fn := fun _ => fun
  | [d1, d2] => { results := [.lit (.bool false)], args := [d1, d2] }
  | _ => none }
def MergeCutsWrongFalsely : Prop := mergeCutsRow.holds Try.pinned (OpenSpec.ofChange mergeCutsWrong)

/-- 'atriumlaw10.MergeThins': WHATEVER THE INPUT: true; the input reads as it did. -/
def mergeThinsSpec : ChangeSpec := { name := "mergeThins", fn := fun _ => fun
  | [d1, d2] => { results := [.lit (.bool true)], args := [d1, d2] }
  | _ => none }
def mergeThinsRow : OpenClaim := { program := "ytdpnhnfhobmopaa", sum := "ea166af957ff0e08875c1d79eca0afac7127ae9946863bebe0288294cff78176", func := "atrium/atriumlaw10.MergeThins", spec := "mergeThins", inPlace := ["internal/bytealg.abigen_runtime_cmpstring"], unfollowed := true, recurses := true, apart := false }
def MergeThinsSaid : Prop := mergeThinsRow.holds Try.pinned (OpenSpec.ofChange mergeThinsSpec)

/-- ITS FALSE NEIGHBOUR: 'it returns false'. Refute it at one input. -/
def mergeThinsWrong : ChangeSpec := { name := "mergeThins", fn := fun _ => fun
  | [d1, d2] => { results := [.lit (.bool false)], args := [d1, d2] }
  | _ => none }
def MergeThinsWrongFalsely : Prop := mergeThinsRow.holds Try.pinned (OpenSpec.ofChange mergeThinsWrong)

/- THE SECOND FORM. 'bulk': how many values and letters a reading holds, each counted each time it is reached (what is shared counts as often as it is met; a slice's spare places count too). A statement '..UptoSaid' is the law's where the arguments, and the package variables that the reading takes, are together of bulk at most 1048576: NARROWER than '..Said'. Prove '..Said' where nothing that the law and all that it calls make is longer than what came in: it says more and counts as full. Else prove '..UptoSaid'. A law counts once. -/
mutual
def uptoBulk {H : Type} : DataW H → Nat
  | .lit (.string bytes) => bytes.length + 1
  | .lit _ => 1
  | .nil => 1
  | .ptr d => uptoBulk d + 1
  | .slice elems spare => uptoBulkAll elems + uptoBulkAll spare + 1
  | .agg parts => uptoBulkAll parts + 1
  | .iface _ d => uptoBulk d + 1
  | .map entries => uptoBulkEntries entries + 1
  | .held _ => 1
def uptoBulkAll {H : Type} : List (DataW H) → Nat
  | [] => 0
  | d :: r => uptoBulk d + uptoBulkAll r
def uptoBulkEntries {H : Type} : List (Lit × DataW H) → Nat
  | [] => 0
  | x :: r => uptoBulkEntry x + uptoBulkEntries r
def uptoBulkEntry {H : Type} : Lit × DataW H → Nat
  | (.string bytes, d) => bytes.length + uptoBulk d + 1
  | (_, d) => uptoBulk d + 1
 end
def uptoSmall : (H : Type) → List (DataW H) → Bool := fun _ ds => decide (uptoBulkAll ds ≤ 1048576)
def OpenSpec.upto (s : _root_.Go.ChangeSpec) : _root_.Go.OpenSpec := { _root_.Go.OpenSpec.ofChange s with cond := some uptoSmall }

/-- 'atriumlaw10.MergeOrders', WHERE WHAT IT READS IS OF BULK AT MOST 1048576: true; the input reads as it did. -/
def mergeOrdersUptoRow : OpenClaim := { program := "ytdpnhnfhobmopaa", sum := "ea166af957ff0e08875c1d79eca0afac7127ae9946863bebe0288294cff78176", func := "atrium/atriumlaw10.MergeOrders", spec := "mergeOrders", inPlace := ["internal/bytealg.abigen_runtime_cmpstring"], unfollowed := true, recurses := true, apart := false, narrowed := true }
def MergeOrdersUptoSaid : Prop := mergeOrdersUptoRow.holds Try.pinned (OpenSpec.upto mergeOrdersSpec)

/-- 'atriumlaw10.MergeLists', WHERE WHAT IT READS IS OF BULK AT MOST 1048576: true; the input reads as it did. -/
def mergeListsUptoRow : OpenClaim := { program := "ytdpnhnfhobmopaa", sum := "ea166af957ff0e08875c1d79eca0afac7127ae9946863bebe0288294cff78176", func := "atrium/atriumlaw10.MergeLists", spec := "mergeLists", inPlace := ["internal/bytealg.abigen_runtime_cmpstring"], unfollowed := true, recurses := true, apart := false, narrowed := true }
def MergeListsUptoSaid : Prop := mergeListsUptoRow.holds Try.pinned (OpenSpec.upto mergeListsSpec)

/-- 'atriumlaw10.MergeKinds', WHERE WHAT IT READS IS OF BULK AT MOST 1048576: true; the input reads as it did. -/
def mergeKindsUptoRow : OpenClaim := { program := "ytdpnhnfhobmopaa", sum := "ea166af957ff0e08875c1d79eca0afac7127ae9946863bebe0288294cff78176", func := "atrium/atriumlaw10.MergeKinds", spec := "mergeKinds", inPlace := ["internal/bytealg.abigen_runtime_cmpstring"], unfollowed := true, recurses := true, apart := false, narrowed := true }
def MergeKindsUptoSaid : Prop := mergeKindsUptoRow.holds Try.pinned (OpenSpec.upto mergeKindsSpec)

/-- 'atriumlaw10.MergeVisible', WHERE WHAT IT READS IS OF BULK AT MOST 1048576: true; the input reads as it did. -/
def mergeVisibleUptoRow : OpenClaim := { program := "ytdpnhnfhobmopaa", sum := "ea166af957ff0e08875c1d79eca0afac7127ae9946863bebe0288294cff78176", func := "atrium/atriumlaw10.MergeVisible", spec := "mergeVisible", inPlace := ["internal/bytealg.abigen_runtime_cmpstring"], unfollowed := true, recurses := true, apart := false, narrowed := true }
def MergeVisibleUptoSaid : Prop := mergeVisibleUptoRow.holds Try.pinned (OpenSpec.upto mergeVisibleSpec)

/-- 'atriumlaw10.MergeDrops', WHERE WHAT IT READS IS OF BULK AT MOST 1048576: true; the input reads as it did. -/
def mergeDropsUptoRow : OpenClaim := { program := "ytdpnhnfhobmopaa", sum := "ea166af957ff0e08875c1d79eca0afac7127ae9946863bebe0288294cff78176", func := "atrium/atriumlaw10.MergeDrops", spec := "mergeDrops", inPlace := ["internal/bytealg.abigen_runtime_cmpstring"], unfollowed := true, recurses := true, apart := false, narrowed := true }
def MergeDropsUptoSaid : Prop := mergeDropsUptoRow.holds Try.pinned (OpenSpec.upto mergeDropsSpec)

/-- 'atriumlaw10.MergeUnseen', WHERE WHAT IT READS IS OF BULK AT MOST 1048576: true; the input reads as it did. -/
def mergeUnseenUptoRow : OpenClaim := { program := "ytdpnhnfhobmopaa", sum := "ea166af957ff0e08875c1d79eca0afac7127ae9946863bebe0288294cff78176", func := "atrium/atriumlaw10.MergeUnseen", spec := "mergeUnseen", inPlace := ["internal/bytealg.abigen_runtime_cmpstring"], unfollowed := true, recurses := true, apart := false, narrowed := true }
def MergeUnseenUptoSaid : Prop := mergeUnseenUptoRow.holds Try.pinned (OpenSpec.upto mergeUnseenSpec)

/-- 'atriumlaw10.MergeCuts', WHERE WHAT IT READS IS OF BULK AT MOST 1048576: true; the input reads as it did. -/
def mergeCutsUptoRow : OpenClaim := { program := "ytdpnhnfhobmopaa", sum := "ea166af957ff0e08875c1d79eca0afac7127ae9946863bebe0288294cff78176", func := "atrium/atriumlaw10.MergeCuts", spec := "mergeCuts", inPlace := ["internal/bytealg.abigen_runtime_cmpstring"], unfollowed := true, recurses := true, apart := false, narrowed := true }
def MergeCutsUptoSaid : Prop := mergeCutsUptoRow.holds Try.pinned (OpenSpec.upto mergeCutsSpec)

/-- 'atriumlaw10.MergeThins', WHERE WHAT IT READS IS OF BULK AT MOST 1048576: true; the input reads as it did. -/
def mergeThinsUptoRow : OpenClaim := { program := "ytdpnhnfhobmopaa", sum := "ea166af957ff0e08875c1d79eca0afac7127ae9946863bebe0288294cff78176", func := "atrium/atriumlaw10.MergeThins", spec := "mergeThins", inPlace := ["internal/bytealg.abigen_runtime_cmpstring"], unfollowed := true, recurses := true, apart := false, narrowed := true }
def MergeThinsUptoSaid : Prop := mergeThinsUptoRow.holds Try.pinned (OpenSpec.upto mergeThinsSpec)

end Rows
end Go.Proofs.Ytdpnhnfhobmopaa
