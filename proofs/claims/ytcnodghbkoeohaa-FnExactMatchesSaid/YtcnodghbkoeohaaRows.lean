/-
  No cell of these rows narrows 'for every input' (looked for: loops, veiled, ifaces, maps, wideKeys, modest, calm, conditions, laid).
  DERIVED. THE GIVEN ROWS OF THIS SEAT. 12 by the template 'for every input the law returns true; each argument reads behind the call as it read before'; 0 by the template 'total and deterministic' (their statements: YtcnodghbkoeohaaTotals.lean).
  GIVEN WITH THE SEED: the statements are not yours to turn. If you find one false, say at which input.
  Laid BY PROGRAM, IN A SANDBOX (cutbox-rows.mjs): the forced cells as the released guide's own fill.sh prints them over the translation f96ecacbeded4fc8… (all of the seat's roots in one cut). By AI agents, Wed Nov 11 2026. No macro, syntax, notation, axiom, sorry.
-/
import Derived.Test.YtcnodghbkoeohaaChecked
import GoSem.Claim
import GoSem.ClaimJoined
import GoSem.ClaimMapViews
import Derived.JoinedTies
import Derived.KernelRfl
namespace Go.Proofs.Ytcnodghbkoeohaa
/- THE CELL 'sum', in the pinned program and in every row, IS THE sha256 OF THE DUMP (.gsa) THAT YtcnodghbkoeohaaProg.lean LOADS. Nothing in Lean hashes anything: it is a label: what it is worth is what the hold of that sum in a sandbox is worth. -/
noncomputable def Try.pinned : Pinned := { name := "ytcnodghbkoeohaa", sum := "f96ecacbeded4fc8d45b6da75de1aed43fc8a85a0e545d9472c69347e87e331c", checked := Try.checked }
namespace Rows
def none {H : Type} : Left H := { results := [], args := [] }

/-- 'laws.FnExactGrowthOf': WHATEVER THE INPUT: true; the input reads as it did. -/
def fnExactGrowthOfSpec : ChangeSpec := { name := "fnExactGrowthOf", fn := fun _ => fun
  | [d1, d2] => { results := [.lit (.bool true)], args := [d1, d2] }
  | _ => none }
def fnExactGrowthOfRow : OpenClaim := { program := "ytcnodghbkoeohaa", sum := "f96ecacbeded4fc8d45b6da75de1aed43fc8a85a0e545d9472c69347e87e331c", func := "loop.example/g00680/laws.FnExactGrowthOf", spec := "fnExactGrowthOf", unfollowed := true, recurses := true, apart := false }
def FnExactGrowthOfSaid : Prop := fnExactGrowthOfRow.holds Try.pinned (OpenSpec.ofChange fnExactGrowthOfSpec)

/-- ITS FALSE NEIGHBOUR: 'it returns false'. Refute it at one input. -/
def fnExactGrowthOfWrong : ChangeSpec := { name := "fnExactGrowthOf", fn := fun _ => fun
  | [d1, d2] => { results := [.lit (.bool false)], args := [d1, d2] }
  | _ => none }
def FnExactGrowthOfWrongFalsely : Prop := fnExactGrowthOfRow.holds Try.pinned (OpenSpec.ofChange fnExactGrowthOfWrong)

/-- 'laws.FnExactModelFault': WHATEVER THE INPUT: true; the input reads as it did. -/
def fnExactModelFaultSpec : ChangeSpec := { name := "fnExactModelFault", fn := fun _ => fun
  | [d1, d2] => { results := [.lit (.bool true)], args := [d1, d2] }
  | _ => none }
def fnExactModelFaultRow : OpenClaim := { program := "ytcnodghbkoeohaa", sum := "f96ecacbeded4fc8d45b6da75de1aed43fc8a85a0e545d9472c69347e87e331c", func := "loop.example/g00680/laws.FnExactModelFault", spec := "fnExactModelFault", unfollowed := true, recurses := true, apart := false }
def FnExactModelFaultSaid : Prop := fnExactModelFaultRow.holds Try.pinned (OpenSpec.ofChange fnExactModelFaultSpec)

/-- ITS FALSE NEIGHBOUR: 'it returns false'. Refute it at one input. -/
def fnExactModelFaultWrong : ChangeSpec := { name := "fnExactModelFault", fn := fun _ => fun
  | [d1, d2] => { results := [.lit (.bool false)], args := [d1, d2] }
  | _ => none }
def FnExactModelFaultWrongFalsely : Prop := fnExactModelFaultRow.holds Try.pinned (OpenSpec.ofChange fnExactModelFaultWrong)

/-- 'laws.FnExactSameNodes': WHATEVER THE INPUT: true; the input reads as it did. -/
def fnExactSameNodesSpec : ChangeSpec := { name := "fnExactSameNodes", fn := fun _ => fun
  | [d1, d2] => { results := [.lit (.bool true)], args := [d1, d2] }
  | _ => none }
def fnExactSameNodesRow : OpenClaim := { program := "ytcnodghbkoeohaa", sum := "f96ecacbeded4fc8d45b6da75de1aed43fc8a85a0e545d9472c69347e87e331c", func := "loop.example/g00680/laws.FnExactSameNodes", spec := "fnExactSameNodes", unfollowed := true, recurses := true, apart := false }
def FnExactSameNodesSaid : Prop := fnExactSameNodesRow.holds Try.pinned (OpenSpec.ofChange fnExactSameNodesSpec)

/-- ITS FALSE NEIGHBOUR: 'it returns false'. Refute it at one input. -/
def fnExactSameNodesWrong : ChangeSpec := { name := "fnExactSameNodes", fn := fun _ => fun
  | [d1, d2] => { results := [.lit (.bool false)], args := [d1, d2] }
  | _ => none }
def FnExactSameNodesWrongFalsely : Prop := fnExactSameNodesRow.holds Try.pinned (OpenSpec.ofChange fnExactSameNodesWrong)

/-- 'laws.FnExactEntriesFault': WHATEVER THE INPUT: true; the input reads as it did. -/
def fnExactEntriesFaultSpec : ChangeSpec := { name := "fnExactEntriesFault", fn := fun _ => fun
  | [d1, d2] => { results := [.lit (.bool true)], args := [d1, d2] }
  | _ => none }
def fnExactEntriesFaultRow : OpenClaim := { program := "ytcnodghbkoeohaa", sum := "f96ecacbeded4fc8d45b6da75de1aed43fc8a85a0e545d9472c69347e87e331c", func := "loop.example/g00680/laws.FnExactEntriesFault", spec := "fnExactEntriesFault", unfollowed := true, recurses := true, apart := false }
def FnExactEntriesFaultSaid : Prop := fnExactEntriesFaultRow.holds Try.pinned (OpenSpec.ofChange fnExactEntriesFaultSpec)

/-- ITS FALSE NEIGHBOUR: 'it returns false'. Refute it at one input. -/
def fnExactEntriesFaultWrong : ChangeSpec := { name := "fnExactEntriesFault", fn := fun _ => fun
  | [d1, d2] => { results := [.lit (.bool false)], args := [d1, d2] }
  | _ => none }
def FnExactEntriesFaultWrongFalsely : Prop := fnExactEntriesFaultRow.holds Try.pinned (OpenSpec.ofChange fnExactEntriesFaultWrong)

/-- 'laws.FnExactMatches': WHATEVER THE INPUT: true; the input reads as it did. -/
def fnExactMatchesSpec : ChangeSpec := { name := "fnExactMatches", fn := fun _ => fun
  | [d1, d2, d3] => { results := [.lit (.bool true)], args := [d1, d2, d3] }
  | _ => none }
def fnExactMatchesRow : OpenClaim := { program := "ytcnodghbkoeohaa", sum := "f96ecacbeded4fc8d45b6da75de1aed43fc8a85a0e545d9472c69347e87e331c", func := "loop.example/g00680/laws.FnExactMatches", spec := "fnExactMatches", unfollowed := true, recurses := true, apart := false }
def FnExactMatchesSaid : Prop := fnExactMatchesRow.holds Try.pinned (OpenSpec.ofChange fnExactMatchesSpec)

/-- ITS FALSE NEIGHBOUR: 'it returns false'. Refute it at one input. -/
def fnExactMatchesWrong : ChangeSpec := { name := "fnExactMatches", fn := fun _ => fun
  | [d1, d2, d3] => { results := [.lit (.bool false)], args := [d1, d2, d3] }
  | _ => none }
def FnExactMatchesWrongFalsely : Prop := fnExactMatchesRow.holds Try.pinned (OpenSpec.ofChange fnExactMatchesWrong)

/-- 'laws.FnExactSameLooks': WHATEVER THE INPUT: true; the input reads as it did. -/
def fnExactSameLooksSpec : ChangeSpec := { name := "fnExactSameLooks", fn := fun _ => fun
  | [d1, d2] => { results := [.lit (.bool true)], args := [d1, d2] }
  | _ => none }
def fnExactSameLooksRow : OpenClaim := { program := "ytcnodghbkoeohaa", sum := "f96ecacbeded4fc8d45b6da75de1aed43fc8a85a0e545d9472c69347e87e331c", func := "loop.example/g00680/laws.FnExactSameLooks", spec := "fnExactSameLooks", unfollowed := true, recurses := true, apart := false }
def FnExactSameLooksSaid : Prop := fnExactSameLooksRow.holds Try.pinned (OpenSpec.ofChange fnExactSameLooksSpec)

/-- ITS FALSE NEIGHBOUR: 'it returns false'. Refute it at one input. -/
def fnExactSameLooksWrong : ChangeSpec := { name := "fnExactSameLooks", fn := fun _ => fun
  | [d1, d2] => { results := [.lit (.bool false)], args := [d1, d2] }
  | _ => none }
def FnExactSameLooksWrongFalsely : Prop := fnExactSameLooksRow.holds Try.pinned (OpenSpec.ofChange fnExactSameLooksWrong)

/-- 'laws.FnExactNodeFault': WHATEVER THE INPUT: true; the input reads as it did. -/
def fnExactNodeFaultSpec : ChangeSpec := { name := "fnExactNodeFault", fn := fun _ => fun
  | [d1, d2] => { results := [.lit (.bool true)], args := [d1, d2] }
  | _ => none }
def fnExactNodeFaultRow : OpenClaim := { program := "ytcnodghbkoeohaa", sum := "f96ecacbeded4fc8d45b6da75de1aed43fc8a85a0e545d9472c69347e87e331c", func := "loop.example/g00680/laws.FnExactNodeFault", spec := "fnExactNodeFault", unfollowed := true, recurses := true, apart := false }
def FnExactNodeFaultSaid : Prop := fnExactNodeFaultRow.holds Try.pinned (OpenSpec.ofChange fnExactNodeFaultSpec)

/-- ITS FALSE NEIGHBOUR: 'it returns false'. Refute it at one input. -/
def fnExactNodeFaultWrong : ChangeSpec := { name := "fnExactNodeFault", fn := fun _ => fun
  | [d1, d2] => { results := [.lit (.bool false)], args := [d1, d2] }
  | _ => none }
def FnExactNodeFaultWrongFalsely : Prop := fnExactNodeFaultRow.holds Try.pinned (OpenSpec.ofChange fnExactNodeFaultWrong)

/-- 'laws.FnExactOpFault': WHATEVER THE INPUT: true; the input reads as it did. -/
def fnExactOpFaultSpec : ChangeSpec := { name := "fnExactOpFault", fn := fun _ => fun
  | [d1, d2] => { results := [.lit (.bool true)], args := [d1, d2] }
  | _ => none }
def fnExactOpFaultRow : OpenClaim := { program := "ytcnodghbkoeohaa", sum := "f96ecacbeded4fc8d45b6da75de1aed43fc8a85a0e545d9472c69347e87e331c", func := "loop.example/g00680/laws.FnExactOpFault", spec := "fnExactOpFault", unfollowed := true, recurses := true, apart := false }
def FnExactOpFaultSaid : Prop := fnExactOpFaultRow.holds Try.pinned (OpenSpec.ofChange fnExactOpFaultSpec)

/-- ITS FALSE NEIGHBOUR: 'it returns false'. Refute it at one input. -/
def fnExactOpFaultWrong : ChangeSpec := { name := "fnExactOpFault", fn := fun _ => fun
  | [d1, d2] => { results := [.lit (.bool false)], args := [d1, d2] }
  | _ => none }
def FnExactOpFaultWrongFalsely : Prop := fnExactOpFaultRow.holds Try.pinned (OpenSpec.ofChange fnExactOpFaultWrong)

/-- 'laws.FnExactEntryFor': WHATEVER THE INPUT: true; the input reads as it did. -/
def fnExactEntryForSpec : ChangeSpec := { name := "fnExactEntryFor", fn := fun _ => fun
  | [d1, d2, d3] => { results := [.lit (.bool true)], args := [d1, d2, d3] }
  | _ => none }
def fnExactEntryForRow : OpenClaim := { program := "ytcnodghbkoeohaa", sum := "f96ecacbeded4fc8d45b6da75de1aed43fc8a85a0e545d9472c69347e87e331c", func := "loop.example/g00680/laws.FnExactEntryFor", spec := "fnExactEntryFor", unfollowed := true, recurses := true, apart := false }
def FnExactEntryForSaid : Prop := fnExactEntryForRow.holds Try.pinned (OpenSpec.ofChange fnExactEntryForSpec)

/-- ITS FALSE NEIGHBOUR: 'it returns false'. Refute it at one input. -/
def fnExactEntryForWrong : ChangeSpec := { name := "fnExactEntryFor", fn := fun _ => fun
  | [d1, d2, d3] => { results := [.lit (.bool false)], args := [d1, d2, d3] }
  | _ => none }
def FnExactEntryForWrongFalsely : Prop := fnExactEntryForRow.holds Try.pinned (OpenSpec.ofChange fnExactEntryForWrong)

/-- 'laws.FnExactSameNotes': WHATEVER THE INPUT: true; the input reads as it did. -/
def fnExactSameNotesSpec : ChangeSpec := { name := "fnExactSameNotes", fn := fun _ => fun
  | [d1, d2] => { results := [.lit (.bool true)], args := [d1, d2] }
  | _ => none }
def fnExactSameNotesRow : OpenClaim := { program := "ytcnodghbkoeohaa", sum := "f96ecacbeded4fc8d45b6da75de1aed43fc8a85a0e545d9472c69347e87e331c", func := "loop.example/g00680/laws.FnExactSameNotes", spec := "fnExactSameNotes", unfollowed := true, recurses := true, apart := false }
def FnExactSameNotesSaid : Prop := fnExactSameNotesRow.holds Try.pinned (OpenSpec.ofChange fnExactSameNotesSpec)

/-- ITS FALSE NEIGHBOUR: 'it returns false'. Refute it at one input. -/
def fnExactSameNotesWrong : ChangeSpec := { name := "fnExactSameNotes", fn := fun _ => fun
  | [d1, d2] => { results := [.lit (.bool false)], args := [d1, d2] }
  | _ => none }
def FnExactSameNotesWrongFalsely : Prop := fnExactSameNotesRow.holds Try.pinned (OpenSpec.ofChange fnExactSameNotesWrong)

/-- 'laws.FnExactSameArenas': WHATEVER THE INPUT: true; the input reads as it did. -/
def fnExactSameArenasSpec : ChangeSpec := { name := "fnExactSameArenas", fn := fun _ => fun
  | [d1, d2] => { results := [.lit (.bool true)], args := [d1, d2] }
  | _ => none }
def fnExactSameArenasRow : OpenClaim := { program := "ytcnodghbkoeohaa", sum := "f96ecacbeded4fc8d45b6da75de1aed43fc8a85a0e545d9472c69347e87e331c", func := "loop.example/g00680/laws.FnExactSameArenas", spec := "fnExactSameArenas", unfollowed := true, recurses := true, apart := false }
def FnExactSameArenasSaid : Prop := fnExactSameArenasRow.holds Try.pinned (OpenSpec.ofChange fnExactSameArenasSpec)

/-- ITS FALSE NEIGHBOUR: 'it returns false'. Refute it at one input. -/
def fnExactSameArenasWrong : ChangeSpec := { name := "fnExactSameArenas", fn := fun _ => fun
  | [d1, d2] => { results := [.lit (.bool false)], args := [d1, d2] }
  | _ => none }
def FnExactSameArenasWrongFalsely : Prop := fnExactSameArenasRow.holds Try.pinned (OpenSpec.ofChange fnExactSameArenasWrong)

/-- 'laws.FnExactEventFault': WHATEVER THE INPUT: true; the input reads as it did. -/
def fnExactEventFaultSpec : ChangeSpec := { name := "fnExactEventFault", fn := fun _ => fun
  | [d1, d2] => { results := [.lit (.bool true)], args := [d1, d2] }
  | _ => none }
def fnExactEventFaultRow : OpenClaim := { program := "ytcnodghbkoeohaa", sum := "f96ecacbeded4fc8d45b6da75de1aed43fc8a85a0e545d9472c69347e87e331c", func := "loop.example/g00680/laws.FnExactEventFault", spec := "fnExactEventFault", unfollowed := true, recurses := true, apart := false }
def FnExactEventFaultSaid : Prop := fnExactEventFaultRow.holds Try.pinned (OpenSpec.ofChange fnExactEventFaultSpec)

/-- ITS FALSE NEIGHBOUR: 'it returns false'. Refute it at one input. -/
def fnExactEventFaultWrong : ChangeSpec := { name := "fnExactEventFault", fn := fun _ => fun
  | [d1, d2] => { results := [.lit (.bool false)], args := [d1, d2] }
  | _ => none }
def FnExactEventFaultWrongFalsely : Prop := fnExactEventFaultRow.holds Try.pinned (OpenSpec.ofChange fnExactEventFaultWrong)

/- THE SECOND FORM. 'bulk': how many values and letters a reading holds, each counted each time it is reached (what is shared counts as often as it is met; a slice's spare places count too). A statement '..UptoSaid' is the law's where the arguments, and the package variables that the reading takes, are together of bulk at most 1048576: NARROWER than '..Said'. Prove '..Said' where nothing that the law and all that it calls make is longer than what came in: it says more and counts as full. Else prove '..UptoSaid'. A law counts once. -/
mutual
def uptoBulk {H : Type} : DataW H → Nat
  | .lit (.string bytes) => bytes.length + 1
  | .lit _ => 1
  | .nil => 1
  | .ptr d => uptoBulk d + 1
  | .slice elems spare => uptoBulkAll elems + uptoBulkAll spare + 1
  | .agg parts => uptoBulkAll parts + 1
  | .iface _ d => uptoBulk d + 1
  | .map entries => uptoBulkEntries entries + 1
  | .held _ => 1
def uptoBulkAll {H : Type} : List (DataW H) → Nat
  | [] => 0
  | d :: r => uptoBulk d + uptoBulkAll r
def uptoBulkEntries {H : Type} : List (Lit × DataW H) → Nat
  | [] => 0
  | x :: r => uptoBulkEntry x + uptoBulkEntries r
def uptoBulkEntry {H : Type} : Lit × DataW H → Nat
  | (.string bytes, d) => bytes.length + uptoBulk d + 1
  | (_, d) => uptoBulk d + 1
 end
def uptoSmall : (H : Type) → List (DataW H) → Bool := fun _ ds => decide (uptoBulkAll ds ≤ 1048576)
def OpenSpec.upto (s : _root_.Go.ChangeSpec) : _root_.Go.OpenSpec := { _root_.Go.OpenSpec.ofChange s with cond := some uptoSmall }

/-- 'laws.FnExactGrowthOf', WHERE WHAT IT READS IS OF BULK AT MOST 1048576: true; the input reads as it did. -/
def fnExactGrowthOfUptoRow : OpenClaim := { program := "ytcnodghbkoeohaa", sum := "f96ecacbeded4fc8d45b6da75de1aed43fc8a85a0e545d9472c69347e87e331c", func := "loop.example/g00680/laws.FnExactGrowthOf", spec := "fnExactGrowthOf", unfollowed := true, recurses := true, apart := false, narrowed := true }
def FnExactGrowthOfUptoSaid : Prop := fnExactGrowthOfUptoRow.holds Try.pinned (OpenSpec.upto fnExactGrowthOfSpec)

/-- 'laws.FnExactModelFault', WHERE WHAT IT READS IS OF BULK AT MOST 1048576: true; the input reads as it did. -/
def fnExactModelFaultUptoRow : OpenClaim := { program := "ytcnodghbkoeohaa", sum := "f96ecacbeded4fc8d45b6da75de1aed43fc8a85a0e545d9472c69347e87e331c", func := "loop.example/g00680/laws.FnExactModelFault", spec := "fnExactModelFault", unfollowed := true, recurses := true, apart := false, narrowed := true }
def FnExactModelFaultUptoSaid : Prop := fnExactModelFaultUptoRow.holds Try.pinned (OpenSpec.upto fnExactModelFaultSpec)

/-- 'laws.FnExactSameNodes', WHERE WHAT IT READS IS OF BULK AT MOST 1048576: true; the input reads as it did. -/
def fnExactSameNodesUptoRow : OpenClaim := { program := "ytcnodghbkoeohaa", sum := "f96ecacbeded4fc8d45b6da75de1aed43fc8a85a0e545d9472c69347e87e331c", func := "loop.example/g00680/laws.FnExactSameNodes", spec := "fnExactSameNodes", unfollowed := true, recurses := true, apart := false, narrowed := true }
def FnExactSameNodesUptoSaid : Prop := fnExactSameNodesUptoRow.holds Try.pinned (OpenSpec.upto fnExactSameNodesSpec)

/-- 'laws.FnExactEntriesFault', WHERE WHAT IT READS IS OF BULK AT MOST 1048576: true; the input reads as it did. -/
def fnExactEntriesFaultUptoRow : OpenClaim := { program := "ytcnodghbkoeohaa", sum := "f96ecacbeded4fc8d45b6da75de1aed43fc8a85a0e545d9472c69347e87e331c", func := "loop.example/g00680/laws.FnExactEntriesFault", spec := "fnExactEntriesFault", unfollowed := true, recurses := true, apart := false, narrowed := true }
def FnExactEntriesFaultUptoSaid : Prop := fnExactEntriesFaultUptoRow.holds Try.pinned (OpenSpec.upto fnExactEntriesFaultSpec)

/-- 'laws.FnExactMatches', WHERE WHAT IT READS IS OF BULK AT MOST 1048576: true; the input reads as it did. -/
def fnExactMatchesUptoRow : OpenClaim := { program := "ytcnodghbkoeohaa", sum := "f96ecacbeded4fc8d45b6da75de1aed43fc8a85a0e545d9472c69347e87e331c", func := "loop.example/g00680/laws.FnExactMatches", spec := "fnExactMatches", unfollowed := true, recurses := true, apart := false, narrowed := true }
def FnExactMatchesUptoSaid : Prop := fnExactMatchesUptoRow.holds Try.pinned (OpenSpec.upto fnExactMatchesSpec)

/-- 'laws.FnExactSameLooks', WHERE WHAT IT READS IS OF BULK AT MOST 1048576: true; the input reads as it did. -/
def fnExactSameLooksUptoRow : OpenClaim := { program := "ytcnodghbkoeohaa", sum := "f96ecacbeded4fc8d45b6da75de1aed43fc8a85a0e545d9472c69347e87e331c", func := "loop.example/g00680/laws.FnExactSameLooks", spec := "fnExactSameLooks", unfollowed := true, recurses := true, apart := false, narrowed := true }
def FnExactSameLooksUptoSaid : Prop := fnExactSameLooksUptoRow.holds Try.pinned (OpenSpec.upto fnExactSameLooksSpec)

/-- 'laws.FnExactNodeFault', WHERE WHAT IT READS IS OF BULK AT MOST 1048576: true; the input reads as it did. -/
def fnExactNodeFaultUptoRow : OpenClaim := { program := "ytcnodghbkoeohaa", sum := "f96ecacbeded4fc8d45b6da75de1aed43fc8a85a0e545d9472c69347e87e331c", func := "loop.example/g00680/laws.FnExactNodeFault", spec := "fnExactNodeFault", unfollowed := true, recurses := true, apart := false, narrowed := true }
def FnExactNodeFaultUptoSaid : Prop := fnExactNodeFaultUptoRow.holds Try.pinned (OpenSpec.upto fnExactNodeFaultSpec)

/-- 'laws.FnExactOpFault', WHERE WHAT IT READS IS OF BULK AT MOST 1048576: true; the input reads as it did. -/
def fnExactOpFaultUptoRow : OpenClaim := { program := "ytcnodghbkoeohaa", sum := "f96ecacbeded4fc8d45b6da75de1aed43fc8a85a0e545d9472c69347e87e331c", func := "loop.example/g00680/laws.FnExactOpFault", spec := "fnExactOpFault", unfollowed := true, recurses := true, apart := false, narrowed := true }
def FnExactOpFaultUptoSaid : Prop := fnExactOpFaultUptoRow.holds Try.pinned (OpenSpec.upto fnExactOpFaultSpec)

/-- 'laws.FnExactEntryFor', WHERE WHAT IT READS IS OF BULK AT MOST 1048576: true; the input reads as it did. -/
def fnExactEntryForUptoRow : OpenClaim := { program := "ytcnodghbkoeohaa", sum := "f96ecacbeded4fc8d45b6da75de1aed43fc8a85a0e545d9472c69347e87e331c", func := "loop.example/g00680/laws.FnExactEntryFor", spec := "fnExactEntryFor", unfollowed := true, recurses := true, apart := false, narrowed := true }
def FnExactEntryForUptoSaid : Prop := fnExactEntryForUptoRow.holds Try.pinned (OpenSpec.upto fnExactEntryForSpec)

/-- 'laws.FnExactSameNotes', WHERE WHAT IT READS IS OF BULK AT MOST 1048576: true; the input reads as it did. -/
def fnExactSameNotesUptoRow : OpenClaim := { program := "ytcnodghbkoeohaa", sum := "f96ecacbeded4fc8d45b6da75de1aed43fc8a85a0e545d9472c69347e87e331c", func := "loop.example/g00680/laws.FnExactSameNotes", spec := "fnExactSameNotes", unfollowed := true, recurses := true, apart := false, narrowed := true }
def FnExactSameNotesUptoSaid : Prop := fnExactSameNotesUptoRow.holds Try.pinned (OpenSpec.upto fnExactSameNotesSpec)

/-- 'laws.FnExactSameArenas', WHERE WHAT IT READS IS OF BULK AT MOST 1048576: true; the input reads as it did. -/
def fnExactSameArenasUptoRow : OpenClaim := { program := "ytcnodghbkoeohaa", sum := "f96ecacbeded4fc8d45b6da75de1aed43fc8a85a0e545d9472c69347e87e331c", func := "loop.example/g00680/laws.FnExactSameArenas", spec := "fnExactSameArenas", unfollowed := true, recurses := true, apart := false, narrowed := true }
def FnExactSameArenasUptoSaid : Prop := fnExactSameArenasUptoRow.holds Try.pinned (OpenSpec.upto fnExactSameArenasSpec)

/-- 'laws.FnExactEventFault', WHERE WHAT IT READS IS OF BULK AT MOST 1048576: true; the input reads as it did. -/
def fnExactEventFaultUptoRow : OpenClaim := { program := "ytcnodghbkoeohaa", sum := "f96ecacbeded4fc8d45b6da75de1aed43fc8a85a0e545d9472c69347e87e331c", func := "loop.example/g00680/laws.FnExactEventFault", spec := "fnExactEventFault", unfollowed := true, recurses := true, apart := false, narrowed := true }
def FnExactEventFaultUptoSaid : Prop := fnExactEventFaultUptoRow.holds Try.pinned (OpenSpec.upto fnExactEventFaultSpec)

end Rows
end Go.Proofs.Ytcnodghbkoeohaa
