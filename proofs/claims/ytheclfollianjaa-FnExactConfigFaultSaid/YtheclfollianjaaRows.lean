/-
  No cell of these rows narrows 'for every input' (looked for: loops, veiled, ifaces, maps, wideKeys, modest, calm, conditions, laid).
  DERIVED. THE GIVEN ROWS OF THIS SEAT. 12 by the template 'for every input the law returns true; each argument reads behind the call as it read before'; 0 by the template 'total and deterministic' (their statements: YtheclfollianjaaTotals.lean).
  GIVEN WITH THE SEED: the statements are not yours to turn. If you find one false, say at which input.
  Laid BY PROGRAM, IN A SANDBOX (cutbox-rows.mjs): the forced cells as the released guide's own fill.sh prints them over the translation c6f9fc2e191549cd… (all of the seat's roots in one cut). By AI agents, Wed Nov 11 2026. No macro, syntax, notation, axiom, sorry.
-/
import Derived.Test.YtheclfollianjaaChecked
import GoSem.Claim
import GoSem.ClaimJoined
import GoSem.ClaimMapViews
import Derived.JoinedTies
import Derived.KernelRfl
namespace Go.Proofs.Ytheclfollianjaa
/- THE CELL 'sum', in the pinned program and in every row, IS THE sha256 OF THE DUMP (.gsa) THAT YtheclfollianjaaProg.lean LOADS. Nothing in Lean hashes anything: it is a label: what it is worth is what the hold of that sum in a sandbox is worth. -/
noncomputable def Try.pinned : Pinned := { name := "ytheclfollianjaa", sum := "c6f9fc2e191549cde0864efdca01bfb2bfed0e5563e51cc672af8287ce8b0afa", checked := Try.checked }
namespace Rows
def none {H : Type} : Left H := { results := [], args := [] }

/-- 'laws.FnExactSameLooks': WHATEVER THE INPUT: true; the input reads as it did. -/
def fnExactSameLooksSpec : ChangeSpec := { name := "fnExactSameLooks", fn := fun _ => fun
  | [d1, d2] => { results := [.lit (.bool true)], args := [d1, d2] }
  | _ => none }
def fnExactSameLooksRow : OpenClaim := { program := "ytheclfollianjaa", sum := "c6f9fc2e191549cde0864efdca01bfb2bfed0e5563e51cc672af8287ce8b0afa", func := "loop.example/g00680/laws.FnExactSameLooks", spec := "fnExactSameLooks", unfollowed := true, recurses := true, apart := false }
def FnExactSameLooksSaid : Prop := fnExactSameLooksRow.holds Try.pinned (OpenSpec.ofChange fnExactSameLooksSpec)

/-- ITS FALSE NEIGHBOUR: 'it returns false'. Refute it at one input. -/
def fnExactSameLooksWrong : ChangeSpec := { name := "fnExactSameLooks", fn := fun _ => fun
  | [d1, d2] => { results := [.lit (.bool false)], args := [d1, d2] }
  | _ => none }
def FnExactSameLooksWrongFalsely : Prop := fnExactSameLooksRow.holds Try.pinned (OpenSpec.ofChange fnExactSameLooksWrong)

/-- 'laws.FnExactSameTrees': WHATEVER THE INPUT: true; the input reads as it did. -/
def fnExactSameTreesSpec : ChangeSpec := { name := "fnExactSameTrees", fn := fun _ => fun
  | [d1, d2] => { results := [.lit (.bool true)], args := [d1, d2] }
  | _ => none }
def fnExactSameTreesRow : OpenClaim := { program := "ytheclfollianjaa", sum := "c6f9fc2e191549cde0864efdca01bfb2bfed0e5563e51cc672af8287ce8b0afa", func := "loop.example/g00680/laws.FnExactSameTrees", spec := "fnExactSameTrees", unfollowed := true, recurses := true, apart := false }
def FnExactSameTreesSaid : Prop := fnExactSameTreesRow.holds Try.pinned (OpenSpec.ofChange fnExactSameTreesSpec)

/-- ITS FALSE NEIGHBOUR: 'it returns false'. Refute it at one input. -/
def fnExactSameTreesWrong : ChangeSpec := { name := "fnExactSameTrees", fn := fun _ => fun
  | [d1, d2] => { results := [.lit (.bool false)], args := [d1, d2] }
  | _ => none }
def FnExactSameTreesWrongFalsely : Prop := fnExactSameTreesRow.holds Try.pinned (OpenSpec.ofChange fnExactSameTreesWrong)

/-- 'laws.FnExactChooseEntry': WHATEVER THE INPUT: true; the input reads as it did. -/
def fnExactChooseEntrySpec : ChangeSpec := { name := "fnExactChooseEntry", fn := fun _ => fun
  | [d1, d2, d3] => { results := [.lit (.bool true)], args := [d1, d2, d3] }
  | _ => none }
def fnExactChooseEntryRow : OpenClaim := { program := "ytheclfollianjaa", sum := "c6f9fc2e191549cde0864efdca01bfb2bfed0e5563e51cc672af8287ce8b0afa", func := "loop.example/g00680/laws.FnExactChooseEntry", spec := "fnExactChooseEntry", unfollowed := true, recurses := true, apart := false }
def FnExactChooseEntrySaid : Prop := fnExactChooseEntryRow.holds Try.pinned (OpenSpec.ofChange fnExactChooseEntrySpec)

/-- ITS FALSE NEIGHBOUR: 'it returns false'. Refute it at one input. -/
def fnExactChooseEntryWrong : ChangeSpec := { name := "fnExactChooseEntry", fn := fun _ => fun
  | [d1, d2, d3] => { results := [.lit (.bool false)], args := [d1, d2, d3] }
  | _ => none }
def FnExactChooseEntryWrongFalsely : Prop := fnExactChooseEntryRow.holds Try.pinned (OpenSpec.ofChange fnExactChooseEntryWrong)

/-- 'laws.FnExactLookFault': WHATEVER THE INPUT: true; the input reads as it did. -/
def fnExactLookFaultSpec : ChangeSpec := { name := "fnExactLookFault", fn := fun _ => fun
  | [d1, d2] => { results := [.lit (.bool true)], args := [d1, d2] }
  | _ => none }
def fnExactLookFaultRow : OpenClaim := { program := "ytheclfollianjaa", sum := "c6f9fc2e191549cde0864efdca01bfb2bfed0e5563e51cc672af8287ce8b0afa", func := "loop.example/g00680/laws.FnExactLookFault", spec := "fnExactLookFault", unfollowed := true, recurses := true, apart := false }
def FnExactLookFaultSaid : Prop := fnExactLookFaultRow.holds Try.pinned (OpenSpec.ofChange fnExactLookFaultSpec)

/-- ITS FALSE NEIGHBOUR: 'it returns false'. Refute it at one input. -/
def fnExactLookFaultWrong : ChangeSpec := { name := "fnExactLookFault", fn := fun _ => fun
  | [d1, d2] => { results := [.lit (.bool false)], args := [d1, d2] }
  | _ => none }
def FnExactLookFaultWrongFalsely : Prop := fnExactLookFaultRow.holds Try.pinned (OpenSpec.ofChange fnExactLookFaultWrong)

/-- 'laws.FnExactArenaFault': WHATEVER THE INPUT: true; the input reads as it did. -/
def fnExactArenaFaultSpec : ChangeSpec := { name := "fnExactArenaFault", fn := fun _ => fun
  | [d] => { results := [.lit (.bool true)], args := [d] }
  | _ => none }
def fnExactArenaFaultRow : OpenClaim := { program := "ytheclfollianjaa", sum := "c6f9fc2e191549cde0864efdca01bfb2bfed0e5563e51cc672af8287ce8b0afa", func := "loop.example/g00680/laws.FnExactArenaFault", spec := "fnExactArenaFault", unfollowed := true, recurses := true, apart := false }
def FnExactArenaFaultSaid : Prop := fnExactArenaFaultRow.holds Try.pinned (OpenSpec.ofChange fnExactArenaFaultSpec)

/-- ITS FALSE NEIGHBOUR: 'it returns false'. Refute it at one input. -/
def fnExactArenaFaultWrong : ChangeSpec := { name := "fnExactArenaFault", fn := fun _ => fun
  | [d] => { results := [.lit (.bool false)], args := [d] }
  | _ => none }
def FnExactArenaFaultWrongFalsely : Prop := fnExactArenaFaultRow.holds Try.pinned (OpenSpec.ofChange fnExactArenaFaultWrong)

/-- 'laws.FnExactSameStates': WHATEVER THE INPUT: true; the input reads as it did. -/
def fnExactSameStatesSpec : ChangeSpec := { name := "fnExactSameStates", fn := fun _ => fun
  | [d1, d2] => { results := [.lit (.bool true)], args := [d1, d2] }
  | _ => none }
def fnExactSameStatesRow : OpenClaim := { program := "ytheclfollianjaa", sum := "c6f9fc2e191549cde0864efdca01bfb2bfed0e5563e51cc672af8287ce8b0afa", func := "loop.example/g00680/laws.FnExactSameStates", spec := "fnExactSameStates", unfollowed := true, recurses := true, apart := false }
def FnExactSameStatesSaid : Prop := fnExactSameStatesRow.holds Try.pinned (OpenSpec.ofChange fnExactSameStatesSpec)

/-- ITS FALSE NEIGHBOUR: 'it returns false'. Refute it at one input. -/
def fnExactSameStatesWrong : ChangeSpec := { name := "fnExactSameStates", fn := fun _ => fun
  | [d1, d2] => { results := [.lit (.bool false)], args := [d1, d2] }
  | _ => none }
def FnExactSameStatesWrongFalsely : Prop := fnExactSameStatesRow.holds Try.pinned (OpenSpec.ofChange fnExactSameStatesWrong)

/-- 'laws.FnExactIsDone': WHATEVER THE INPUT: true; the input reads as it did. -/
def fnExactIsDoneSpec : ChangeSpec := { name := "fnExactIsDone", fn := fun _ => fun
  | [d1, d2] => { results := [.lit (.bool true)], args := [d1, d2] }
  | _ => none }
def fnExactIsDoneRow : OpenClaim := { program := "ytheclfollianjaa", sum := "c6f9fc2e191549cde0864efdca01bfb2bfed0e5563e51cc672af8287ce8b0afa", func := "loop.example/g00680/laws.FnExactIsDone", spec := "fnExactIsDone", unfollowed := true, recurses := true, apart := false }
def FnExactIsDoneSaid : Prop := fnExactIsDoneRow.holds Try.pinned (OpenSpec.ofChange fnExactIsDoneSpec)

/-- ITS FALSE NEIGHBOUR: 'it returns false'. Refute it at one input. -/
def fnExactIsDoneWrong : ChangeSpec := { name := "fnExactIsDone", fn := fun _ => fun
  | [d1, d2] => { results := [.lit (.bool false)], args := [d1, d2] }
  | _ => none }
def FnExactIsDoneWrongFalsely : Prop := fnExactIsDoneRow.holds Try.pinned (OpenSpec.ofChange fnExactIsDoneWrong)

/-- 'laws.FnExactAxisOf': WHATEVER THE INPUT: true; the input reads as it did. -/
def fnExactAxisOfSpec : ChangeSpec := { name := "fnExactAxisOf", fn := fun _ => fun
  | [d1, d2] => { results := [.lit (.bool true)], args := [d1, d2] }
  | _ => none }
def fnExactAxisOfRow : OpenClaim := { program := "ytheclfollianjaa", sum := "c6f9fc2e191549cde0864efdca01bfb2bfed0e5563e51cc672af8287ce8b0afa", func := "loop.example/g00680/laws.FnExactAxisOf", spec := "fnExactAxisOf", unfollowed := true, recurses := true, apart := false }
def FnExactAxisOfSaid : Prop := fnExactAxisOfRow.holds Try.pinned (OpenSpec.ofChange fnExactAxisOfSpec)

/-- ITS FALSE NEIGHBOUR: 'it returns false'. Refute it at one input. -/
def fnExactAxisOfWrong : ChangeSpec := { name := "fnExactAxisOf", fn := fun _ => fun
  | [d1, d2] => { results := [.lit (.bool false)], args := [d1, d2] }
  | _ => none }
def FnExactAxisOfWrongFalsely : Prop := fnExactAxisOfRow.holds Try.pinned (OpenSpec.ofChange fnExactAxisOfWrong)

/-- 'laws.FnExactConfigFault': WHATEVER THE INPUT: true; the input reads as it did. -/
def fnExactConfigFaultSpec : ChangeSpec := { name := "fnExactConfigFault", fn := fun _ => fun
  | [d] => { results := [.lit (.bool true)], args := [d] }
  | _ => none }
def fnExactConfigFaultRow : OpenClaim := { program := "ytheclfollianjaa", sum := "c6f9fc2e191549cde0864efdca01bfb2bfed0e5563e51cc672af8287ce8b0afa", func := "loop.example/g00680/laws.FnExactConfigFault", spec := "fnExactConfigFault", apart := false }
def FnExactConfigFaultSaid : Prop := fnExactConfigFaultRow.holds Try.pinned (OpenSpec.ofChange fnExactConfigFaultSpec)

/-- ITS FALSE NEIGHBOUR: 'it returns false'. Refute it at one input. -/
def fnExactConfigFaultWrong : ChangeSpec := { name := "fnExactConfigFault", fn := fun _ => fun
  | [d] => { results := [.lit (.bool false)], args := [d] }
  | _ => none }
def FnExactConfigFaultWrongFalsely : Prop := fnExactConfigFaultRow.holds Try.pinned (OpenSpec.ofChange fnExactConfigFaultWrong)

/-- 'laws.FnExactUnionOf': WHATEVER THE INPUT: true; the input reads as it did. -/
def fnExactUnionOfSpec : ChangeSpec := { name := "fnExactUnionOf", fn := fun _ => fun
  | [d1, d2] => { results := [.lit (.bool true)], args := [d1, d2] }
  | _ => none }
def fnExactUnionOfRow : OpenClaim := { program := "ytheclfollianjaa", sum := "c6f9fc2e191549cde0864efdca01bfb2bfed0e5563e51cc672af8287ce8b0afa", func := "loop.example/g00680/laws.FnExactUnionOf", spec := "fnExactUnionOf", unfollowed := true, recurses := true, apart := false }
def FnExactUnionOfSaid : Prop := fnExactUnionOfRow.holds Try.pinned (OpenSpec.ofChange fnExactUnionOfSpec)

/-- ITS FALSE NEIGHBOUR: 'it returns false'. Refute it at one input. -/
def fnExactUnionOfWrong : ChangeSpec := { name := "fnExactUnionOf", fn := fun _ => fun
  | [d1, d2] => { results := [.lit (.bool false)], args := [d1, d2] }
  | _ => none }
def FnExactUnionOfWrongFalsely : Prop := fnExactUnionOfRow.holds Try.pinned (OpenSpec.ofChange fnExactUnionOfWrong)

/-- 'laws.FnExactFindPair': WHATEVER THE INPUT: true; the input reads as it did. -/
def fnExactFindPairSpec : ChangeSpec := { name := "fnExactFindPair", fn := fun _ => fun
  | [d1, d2, d3] => { results := [.lit (.bool true)], args := [d1, d2, d3] }
  | _ => none }
def fnExactFindPairRow : OpenClaim := { program := "ytheclfollianjaa", sum := "c6f9fc2e191549cde0864efdca01bfb2bfed0e5563e51cc672af8287ce8b0afa", func := "loop.example/g00680/laws.FnExactFindPair", spec := "fnExactFindPair", unfollowed := true, recurses := true, apart := false }
def FnExactFindPairSaid : Prop := fnExactFindPairRow.holds Try.pinned (OpenSpec.ofChange fnExactFindPairSpec)

/-- ITS FALSE NEIGHBOUR: 'it returns false'. Refute it at one input. -/
def fnExactFindPairWrong : ChangeSpec := { name := "fnExactFindPair", fn := fun _ => fun
  | [d1, d2, d3] => { results := [.lit (.bool false)], args := [d1, d2, d3] }
  | _ => none }
def FnExactFindPairWrongFalsely : Prop := fnExactFindPairRow.holds Try.pinned (OpenSpec.ofChange fnExactFindPairWrong)

/-- 'laws.FnExactNewArena': WHATEVER THE INPUT: true; the input reads as it did. -/
def fnExactNewArenaSpec : ChangeSpec := { name := "fnExactNewArena", fn := fun _ => fun
  | [d1, d2] => { results := [.lit (.bool true)], args := [d1, d2] }
  | _ => none }
def fnExactNewArenaRow : OpenClaim := { program := "ytheclfollianjaa", sum := "c6f9fc2e191549cde0864efdca01bfb2bfed0e5563e51cc672af8287ce8b0afa", func := "loop.example/g00680/laws.FnExactNewArena", spec := "fnExactNewArena", apart := false }
def FnExactNewArenaSaid : Prop := fnExactNewArenaRow.holds Try.pinned (OpenSpec.ofChange fnExactNewArenaSpec)

/-- ITS FALSE NEIGHBOUR: 'it returns false'. Refute it at one input. -/
def fnExactNewArenaWrong : ChangeSpec := { name := "fnExactNewArena", fn := fun _ => fun
  | [d1, d2] => { results := [.lit (.bool false)], args := [d1, d2] }
  | _ => none }
def FnExactNewArenaWrongFalsely : Prop := fnExactNewArenaRow.holds Try.pinned (OpenSpec.ofChange fnExactNewArenaWrong)

/- THE SECOND FORM. 'bulk': how many values and letters a reading holds, each counted each time it is reached (what is shared counts as often as it is met; a slice's spare places count too). A statement '..UptoSaid' is the law's where the arguments, and the package variables that the reading takes, are together of bulk at most 1048576: NARROWER than '..Said'. Prove '..Said' where nothing that the law and all that it calls make is longer than what came in: it says more and counts as full. Else prove '..UptoSaid'. A law counts once. -/
mutual
def uptoBulk {H : Type} : DataW H → Nat
  | .lit (.string bytes) => bytes.length + 1
  | .lit _ => 1
  | .nil => 1
  | .ptr d => uptoBulk d + 1
  | .slice elems spare => uptoBulkAll elems + uptoBulkAll spare + 1
  | .agg parts => uptoBulkAll parts + 1
  | .iface _ d => uptoBulk d + 1
  | .map entries => uptoBulkEntries entries + 1
  | .held _ => 1
def uptoBulkAll {H : Type} : List (DataW H) → Nat
  | [] => 0
  | d :: r => uptoBulk d + uptoBulkAll r
def uptoBulkEntries {H : Type} : List (Lit × DataW H) → Nat
  | [] => 0
  | x :: r => uptoBulkEntry x + uptoBulkEntries r
def uptoBulkEntry {H : Type} : Lit × DataW H → Nat
  | (.string bytes, d) => bytes.length + uptoBulk d + 1
  | (_, d) => uptoBulk d + 1
 end
def uptoSmall : (H : Type) → List (DataW H) → Bool := fun _ ds => decide (uptoBulkAll ds ≤ 1048576)
def OpenSpec.upto (s : _root_.Go.ChangeSpec) : _root_.Go.OpenSpec := { _root_.Go.OpenSpec.ofChange s with cond := some uptoSmall }

/-- 'laws.FnExactSameLooks', WHERE WHAT IT READS IS OF BULK AT MOST 1048576: true; the input reads as it did. -/
def fnExactSameLooksUptoRow : OpenClaim := { program := "ytheclfollianjaa", sum := "c6f9fc2e191549cde0864efdca01bfb2bfed0e5563e51cc672af8287ce8b0afa", func := "loop.example/g00680/laws.FnExactSameLooks", spec := "fnExactSameLooks", unfollowed := true, recurses := true, apart := false, narrowed := true }
def FnExactSameLooksUptoSaid : Prop := fnExactSameLooksUptoRow.holds Try.pinned (OpenSpec.upto fnExactSameLooksSpec)

/-- 'laws.FnExactSameTrees', WHERE WHAT IT READS IS OF BULK AT MOST 1048576: true; the input reads as it did. -/
def fnExactSameTreesUptoRow : OpenClaim := { program := "ytheclfollianjaa", sum := "c6f9fc2e191549cde0864efdca01bfb2bfed0e5563e51cc672af8287ce8b0afa", func := "loop.example/g00680/laws.FnExactSameTrees", spec := "fnExactSameTrees", unfollowed := true, recurses := true, apart := false, narrowed := true }
def FnExactSameTreesUptoSaid : Prop := fnExactSameTreesUptoRow.holds Try.pinned (OpenSpec.upto fnExactSameTreesSpec)

/-- 'laws.FnExactChooseEntry', WHERE WHAT IT READS IS OF BULK AT MOST 1048576: true; the input reads as it did. -/
def fnExactChooseEntryUptoRow : OpenClaim := { program := "ytheclfollianjaa", sum := "c6f9fc2e191549cde0864efdca01bfb2bfed0e5563e51cc672af8287ce8b0afa", func := "loop.example/g00680/laws.FnExactChooseEntry", spec := "fnExactChooseEntry", unfollowed := true, recurses := true, apart := false, narrowed := true }
def FnExactChooseEntryUptoSaid : Prop := fnExactChooseEntryUptoRow.holds Try.pinned (OpenSpec.upto fnExactChooseEntrySpec)

/-- 'laws.FnExactLookFault', WHERE WHAT IT READS IS OF BULK AT MOST 1048576: true; the input reads as it did. -/
def fnExactLookFaultUptoRow : OpenClaim := { program := "ytheclfollianjaa", sum := "c6f9fc2e191549cde0864efdca01bfb2bfed0e5563e51cc672af8287ce8b0afa", func := "loop.example/g00680/laws.FnExactLookFault", spec := "fnExactLookFault", unfollowed := true, recurses := true, apart := false, narrowed := true }
def FnExactLookFaultUptoSaid : Prop := fnExactLookFaultUptoRow.holds Try.pinned (OpenSpec.upto fnExactLookFaultSpec)

/-- 'laws.FnExactArenaFault', WHERE WHAT IT READS IS OF BULK AT MOST 1048576: true; the input reads as it did. -/
def fnExactArenaFaultUptoRow : OpenClaim := { program := "ytheclfollianjaa", sum := "c6f9fc2e191549cde0864efdca01bfb2bfed0e5563e51cc672af8287ce8b0afa", func := "loop.example/g00680/laws.FnExactArenaFault", spec := "fnExactArenaFault", unfollowed := true, recurses := true, apart := false, narrowed := true }
def FnExactArenaFaultUptoSaid : Prop := fnExactArenaFaultUptoRow.holds Try.pinned (OpenSpec.upto fnExactArenaFaultSpec)

/-- 'laws.FnExactSameStates', WHERE WHAT IT READS IS OF BULK AT MOST 1048576: true; the input reads as it did. -/
def fnExactSameStatesUptoRow : OpenClaim := { program := "ytheclfollianjaa", sum := "c6f9fc2e191549cde0864efdca01bfb2bfed0e5563e51cc672af8287ce8b0afa", func := "loop.example/g00680/laws.FnExactSameStates", spec := "fnExactSameStates", unfollowed := true, recurses := true, apart := false, narrowed := true }
def FnExactSameStatesUptoSaid : Prop := fnExactSameStatesUptoRow.holds Try.pinned (OpenSpec.upto fnExactSameStatesSpec)

/-- 'laws.FnExactIsDone', WHERE WHAT IT READS IS OF BULK AT MOST 1048576: true; the input reads as it did. -/
def fnExactIsDoneUptoRow : OpenClaim := { program := "ytheclfollianjaa", sum := "c6f9fc2e191549cde0864efdca01bfb2bfed0e5563e51cc672af8287ce8b0afa", func := "loop.example/g00680/laws.FnExactIsDone", spec := "fnExactIsDone", unfollowed := true, recurses := true, apart := false, narrowed := true }
def FnExactIsDoneUptoSaid : Prop := fnExactIsDoneUptoRow.holds Try.pinned (OpenSpec.upto fnExactIsDoneSpec)

/-- 'laws.FnExactAxisOf', WHERE WHAT IT READS IS OF BULK AT MOST 1048576: true; the input reads as it did. -/
def fnExactAxisOfUptoRow : OpenClaim := { program := "ytheclfollianjaa", sum := "c6f9fc2e191549cde0864efdca01bfb2bfed0e5563e51cc672af8287ce8b0afa", func := "loop.example/g00680/laws.FnExactAxisOf", spec := "fnExactAxisOf", unfollowed := true, recurses := true, apart := false, narrowed := true }
def FnExactAxisOfUptoSaid : Prop := fnExactAxisOfUptoRow.holds Try.pinned (OpenSpec.upto fnExactAxisOfSpec)

/-- 'laws.FnExactConfigFault', WHERE WHAT IT READS IS OF BULK AT MOST 1048576: true; the input reads as it did. -/
def fnExactConfigFaultUptoRow : OpenClaim := { program := "ytheclfollianjaa", sum := "c6f9fc2e191549cde0864efdca01bfb2bfed0e5563e51cc672af8287ce8b0afa", func := "loop.example/g00680/laws.FnExactConfigFault", spec := "fnExactConfigFault", apart := false, narrowed := true }
def FnExactConfigFaultUptoSaid : Prop := fnExactConfigFaultUptoRow.holds Try.pinned (OpenSpec.upto fnExactConfigFaultSpec)

/-- 'laws.FnExactUnionOf', WHERE WHAT IT READS IS OF BULK AT MOST 1048576: true; the input reads as it did. -/
def fnExactUnionOfUptoRow : OpenClaim := { program := "ytheclfollianjaa", sum := "c6f9fc2e191549cde0864efdca01bfb2bfed0e5563e51cc672af8287ce8b0afa", func := "loop.example/g00680/laws.FnExactUnionOf", spec := "fnExactUnionOf", unfollowed := true, recurses := true, apart := false, narrowed := true }
def FnExactUnionOfUptoSaid : Prop := fnExactUnionOfUptoRow.holds Try.pinned (OpenSpec.upto fnExactUnionOfSpec)

/-- 'laws.FnExactFindPair', WHERE WHAT IT READS IS OF BULK AT MOST 1048576: true; the input reads as it did. -/
def fnExactFindPairUptoRow : OpenClaim := { program := "ytheclfollianjaa", sum := "c6f9fc2e191549cde0864efdca01bfb2bfed0e5563e51cc672af8287ce8b0afa", func := "loop.example/g00680/laws.FnExactFindPair", spec := "fnExactFindPair", unfollowed := true, recurses := true, apart := false, narrowed := true }
def FnExactFindPairUptoSaid : Prop := fnExactFindPairUptoRow.holds Try.pinned (OpenSpec.upto fnExactFindPairSpec)

/-- 'laws.FnExactNewArena', WHERE WHAT IT READS IS OF BULK AT MOST 1048576: true; the input reads as it did. -/
def fnExactNewArenaUptoRow : OpenClaim := { program := "ytheclfollianjaa", sum := "c6f9fc2e191549cde0864efdca01bfb2bfed0e5563e51cc672af8287ce8b0afa", func := "loop.example/g00680/laws.FnExactNewArena", spec := "fnExactNewArena", apart := false, narrowed := true }
def FnExactNewArenaUptoSaid : Prop := fnExactNewArenaUptoRow.holds Try.pinned (OpenSpec.upto fnExactNewArenaSpec)

end Rows
end Go.Proofs.Ytheclfollianjaa
